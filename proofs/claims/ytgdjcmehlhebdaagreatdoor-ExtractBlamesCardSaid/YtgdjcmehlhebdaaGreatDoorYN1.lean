/- Walks: a truth's small calls -/
import Derived.Test.YtgdjcmehlhebdaaGreatDoorYR
import Derived.Test.YtgdjcmehlhebdaaGreatDoorYJ2
set_option maxHeartbeats 25600000
namespace Go.Proofs.YtgdjcmehlhebdaaGreatDoor
open _root_.Go.Proofs.Tryz
open Go.E
set_option maxRecDepth 4000
theorem J72 : zae prog 72 := ⟨_, func72, by kernel_rfl, rfl⟩
theorem elem138 : zcn prog 138 50 64 := zcv (by kernel_rfl)
theorem zv136 : zeJ prog 136 = some (sv zb7) := by kernel_rfl
theorem zsW (Y : Sm) (i : Nat) : Value.tuple #[zqj sv (sv zb7) (E.look i Y), .bool (E.look i Y).isSome] = .tuple #[.agg (zaD (itS Y i).s).toArray, .bool (itS Y i).there] := by
 unfold itS; cases E.look i Y <;> rfl
theorem znt (Y : Sm) (xs : List Nat) {k : Nat} (h : k < xs.length) : ((xs.take (k + 1)).map (itS Y)).flatMap zaT = ((xs.take k).map (itS Y)).flatMap zaT ++ zaT (itS Y (xs.getD k 0)) := by
 rw [List.take_succ_eq_append_getElem h, List.map_append, List.flatMap_append, show xs.getD k 0 = xs[k] by simp [List.getD, h]]; simp
theorem zp3 (tt : List Tx) {k : Nat} (h : k < tt.length) : hcs ((tt.take (k + 1)).map fun t => shaH t.2.2) = hcs ((tt.take k).map fun t => shaH t.2.2) ++ hvl (shaH (tt.getD k tx0).2.2) := by
 rw [List.take_succ_eq_append_getElem h, List.map_append, zbg, show tt.getD k tx0 = tt[k] by simp [List.getD, h]]; simp [hcs]
theorem ze8 (E : Nat → H32) (qb n sm tb mb : Nat) (ms : Tm) (hn : okN n) (w0 : World) (hQ : Ro w0 [] (Blk qb 160 [.int .u64 (n : Int), .map (some sm), .pointer (some ⟨tb, 0, none⟩)])) (hB : Ro w0 [] (Blk tb 243 (zar E (hgt n) mb))) (hM : Ro w0 [] (MapA mb zau hv ms)) : Calls prog 24 #[.pointer (some ⟨qb, 0, none⟩)] w0 (Ret w0 (hv (getT E ms (hgt n, 0)))) := by
 refine Calls.ret ?_
 refine co 11 [.cell 2 49] func24 ?_
 refine gw ?_
 intro b2
 refine gw ?_
 refine S.c0 J72 (fun w hw => ztp E tb mb (hgt n) ms (zb0 hn) w (Rd.ro hB w hw) (Rd.ro hM w hw)) ?_
 refine S.opN rfl (OpV.storeV0 (v := hv (getT E ms (hgt n, 0))) rfl rfl (zab ce49) (zai _) (zaf _) ?_)
 refine gw ?_
 refine TC.ret ?_
 refine finQ.ret (RVs.cell rfl (Ld.all hz0 rT (zab ce49)) RVs.nil) sn ?_
 exact ⟨rfl, rfl⟩
theorem zcm (qb n sm tb : Nat) (Y : Sm) (A : OAd) (c : Nat) (xs : List Nat) (hx : xs.length ≤ 65536) (w0 : World) (hQ : Ro w0 [] (Blk qb 160 [.int .u64 (n : Int), .map (some sm), .pointer (some ⟨tb, 0, none⟩)])) (hSm : Ro w0 [] (MapA sm encU sv Y)) (hR : Ro w0 [] (SlA A (u64s xs))) :
  Calls prog 29 #[.pointer (some ⟨qb, 0, none⟩), .slice A xs.length c] w0 (Post w0 [] fun v L => ∃ O d, v = .slice O xs.length d ∧ L = [OwnA 138 50 O xs.length d ((xs.map (itS Y)).flatMap zaT)]) := by
 refine co 35 [.tmp 4] func29 ?_
 refine gw ?_
 refine TC.ownNil 138 50 ?_
 refine TC.loop (γ := Nat × OAd × Nat) [15, 16, 17, 7, 19, 20, 21, 22, 23, 24, 18, 25, 26, 8, 9, 27, 28, 29, 30, 31, 32, 5, 33, 14] (fun g => [(14, .int .i64 ((g.1 : Nat) : Int)), (5, .slice g.2.1 g.1 g.2.2)]) (fun g => [OwnA 138 50 g.2.1 g.1 g.2.2 (((xs.take g.1).map (itS Y)).flatMap zaT)]) (fun g => g.1 ≤ xs.length) (fun g => xs.length - g.1) ((0, none, 0))
  (Nat.zero_le _) ⟨Out.refl _ _, ag⟩ sr ?_
 rintro ⟨k, O, d⟩ u hk
 dsimp only at hk
 show TC _ _ _ (puts [(14, .int .i64 (k : Int)), (5, .slice O k d)] (scr _ u _)) [OwnA 138 50 O k d (((xs.take k).map (itS Y)).flatMap zaT)]
 refine gw ?_
 refine S.dec rfl rfl (Qt.lt rfl rfl) (fun h15 => gw ?_) (fun h15 => gw ?_)
 ·refine S.r (Qt.index uT cT rfl rfl ow (Has.ro hR) (by rw [zbi]; omega)) ?_
  refine S.r (Qt.load rfl (Ld.sl (v := .int .u64 (((xs.getD k 0) : Nat) : Int)) (Has.ro hR) oT (zbO ow))) (gw ?_)
  refine S.r (Qt.as (Qt.lookup_ok (k := (xs.getD k 0)) uT Tryz.keyU zv136 rfl rfl (Has.ro hSm)) (zsW Y (xs.getD k 0))) (gw ?_)
  intro b8
  refine S.opN rfl (OpV.storeV0 (v := .agg (zaD (itS Y (xs.getD k 0)).s).toArray) rfl rfl (by rw [zav, zam]; exact ce136) (zdW _) (by rw [zav, zam]; rfl) ?_)
  refine gw ?_
  refine S.r (Qt.load rfl (Ld.all (vs := zaD (itS Y (xs.getD k 0)).s) hz0 rT (by rw [zam]; exact ce136))) ?_
  refine S.r (Qt.as (Qt.buildS (vs := [.bool (itS Y (xs.getD k 0)).there, .agg (zaD (itS Y (xs.getD k 0)).s).toArray]) (pls := #[(0, 1), (1, 49)]) uT (fun w => by kernel_rfl) ze138 rfl ⟨rfl, (by show some (1, 49) = some (1, (zaD (itS Y (xs.getD k 0)).s).length); rw [zam]), trivial⟩ (by rw [ze0, zax]; rfl)) (by rw [ze0])) ?_
  refine S.o (OpV.slice1 (bytes := 64) (v := .agg (zaT (itS Y (xs.getD k 0))).toArray) uT elem138 (by decide) rfl (by rw [zav, zax]) (fun g31 => ?_))
  refine S.o (OpV.app2 (bytes := 64) (news := zaT (itS Y (xs.getD k 0))) uT elem138 rfl rfl (Has.blk (cs := zaT (itS Y (xs.getD k 0))) hz0) (by rw [zax]) (List.all_eq_true.1 (zdX _)) (by simp only [maxLen]; omega) ow (fun O3 d3 => ?_))
  refine gw ?_
  refine ⟨(k + 1, O3, d3), ?_, ?_, ⟨?_, ag⟩, (by dsimp only; rw [znt Y xs ow]; exact Sub.trans (sk (sd (sd sn0))) (Sub.trans (sk sr) (Sub.of_perm pm2)))⟩
  ·show _ ≤ _; dsimp only; omega
  ·show _ < _; dsimp only; omega
  exact outs
 ·refine TC.exit (TC.seq (gw ?_))
  refine TC.ret (fin1 sr ?_)
  obtain rfl : k = xs.length := by omega
  rw [List.take_length]
  exact ⟨O, d, rfl, rfl⟩
theorem ze9 (A : OAd) (c : Nat) (xs : List Nat) (B : OAd) (b : Nat) (l : List Go.E.Item) (hn : xs.length ≤ 16384) (h1 : l.length = xs.length) (h2 : ∀ x ∈ xs, x < 4294967296) (w0 : World) (hlow : ∀ x ∈ xs, x < 18446744073709551616) (hR : Ro w0 [] (SlA A (u64s xs))) (hB : Ro w0 [] (SlA B (l.flatMap zaT))) (hT : Tabs 3 1 w0 []) :
  Calls prog 81 #[.slice A xs.length c, .slice B l.length b] w0 (Post w0 [] fun v L => ∃ O d, v = .tuple #[.slice O xs.length d, .nilIface] ∧ L = [OwnA 49 32 O xs.length d (hcs (za4 xs l xs.length))]) := by
 refine co 33 [.tmp 4, .tmp 5] func81 ?_
 refine gw ?_
 refine S.cn J47 (fun w hw => (by have q := zdr A c xs B b l hn w hlow (Rd.ro hR w hw) (Rd.ro hB w hw); rw [zgP h1 h2] at q; exact q : Calls prog 47 #[.slice A xs.length c, .slice B l.length b] w (Post w [] fun v L => TxQ (some (ziB xs l)) v L))) ?_
 rintro v L' ⟨Ox, dx, tt, rfl, rfl, q1, q2⟩
 have hlen : tt.length = xs.length := by have e := congrArg List.length q1; rwa [List.length_map, zc8] at e
 have htx : ∀ t ∈ tt, t.2.2.length ≤ 70368744177664 := fun t ht => zeZ xs l _ (zgP h1 h2) _ (q1 ▸ List.mem_map_of_mem (f := fun t : Tx => t.2.2) ht)
 refine gw ?_
 refine TC.ownNil 49 32 ?_
 refine TC.loop (γ := Nat × OAd × Nat) [23, 24, 25, 10, 26, 27, 28, 29, 30, 8, 31, 22] (fun g => [(22, .int .i64 ((g.1 : Nat) : Int)), (8, .slice g.2.1 g.1 g.2.2)]) (fun g => [OwnA 49 32 g.2.1 g.1 g.2.2 (hcs ((tt.take g.1).map fun t => shaH t.2.2)), OwnA 112 1 Ox tt.length dx (tt.flatMap txL), Many (tt.map zaN)]) (fun g => g.1 ≤ tt.length) (fun g => tt.length - g.1) ((0, none, 0))
  (Nat.zero_le _) ⟨Out.refl _ _, ag⟩ sr ?_
 rintro ⟨k, O, d⟩ u hk
 dsimp only at hk
 show TC _ _ _ (puts [(22, .int .i64 (k : Int)), (8, .slice O k d)] (scr _ u _)) [OwnA 49 32 O k d (hcs ((tt.take k).map fun t => shaH t.2.2)), _, _]
 refine gw ?_
 refine S.dec rfl rfl (Qt.lt rfl rfl) (fun h23 => gw ?_) (fun h23 => gw ?_)
 ·refine S.r (Qt.index uT cT rfl rfl ow (Has.own hz1) (by rw [zkD]; omega)) ?_
  refine S.r (Qt.load rfl (Ld.sl (v := .slice (tt.getD k tx0).1 (tt.getD k tx0).2.2.length (tt.getD k tx0).2.1) (Has.own hz1) oT (zor ow))) (gw ?_)
  refine S.c0 J114 (fun w hw => Calls.ret (zdh (tt.getD k tx0).1 (tt.getD k tx0).2.1 (tt.getD k tx0).2.2 w (Rd.own (e := 5) (sz := 1) (Rd.many (A := zaN (tt.getD k tx0)) (Rd.at 2 rfl) (List.mem_map_of_mem (zbk tx0 h23))) w hw) (htx _ (zbk tx0 h23)) (hT.at hw))) ?_
  refine S.o (OpV.slice1 (bytes := 32) (v := hv (shaH (tt.getD k tx0).2.2)) uT elem49 (by decide) rfl (zaf _) (fun g29 => ?_))
  refine S.o (OpV.app1 (bytes := 32) (news := hvl (shaH (tt.getD k tx0).2.2)) uT elem49 rfl rfl (Has.blk (cs := hvl (shaH (tt.getD k tx0).2.2)) hz0) (by rw [zag]) (List.all_eq_true.1 (zco _)) (by simp only [maxLen]; omega) ow (fun O3 d3 => ?_))
  refine gw ?_
  refine ⟨(k + 1, O3, d3), ?_, ?_, ⟨?_, ag⟩, (by dsimp only; rw [zp3 tt ow]; exact Sub.trans (sk (sk (sk (sd sn0)))) (Sub.trans (sk (Sub.trans (sk (Sub.trans (sk sr) (Sub.of_perm pm1))) (Sub.of_perm pm1))) (Sub.of_perm pm1)))⟩
  ·show _ ≤ _; dsimp only; omega
  ·show _ < _; dsimp only; omega
  exact outs
 ·refine TC.exit (TC.seq (gw ?_))
  refine TC.ret (finQ.ret rv (sk (sd (sd sn0))) ?_)
  obtain rfl : k = tt.length := by omega
  refine ⟨O, d, by rw [hlen]; rfl, ?_⟩
  rw [List.take_length, hlen, show (tt.map fun t => shaH t.2.2) = za4 xs l xs.length by (have e : (tt.map fun t => shaH t.2.2) = (tt.map fun t => t.2.2).map shaH := by rw [List.map_map]; rfl); rw [e, q1, ziB, List.map_map]; rfl]
theorem J164 : zae prog 164 := ⟨_, func164, by kernel_rfl, rfl⟩
theorem J165 : zae prog 165 := ⟨_, func165, by kernel_rfl, rfl⟩
theorem J195 : zae prog 195 := ⟨_, func195, by kernel_rfl, rfl⟩
theorem J210 : zae prog 210 := ⟨_, func210, by kernel_rfl, rfl⟩
theorem zp4 (n : Nat) : madeCells (hv zac).cells (n * 32) = (List.replicate (n * 32) (Value.int .u8 0)).toArray := by
 have e : (hv zac).cells = Array.replicate 32 (Value.int .u8 0) := by kernel_rfl
 refine Array.ext (by simp [madeCells]) fun i h1 h2 => ?_
 have h3 : i % 32 < 32 := Nat.mod_lt _ (by decide)
 simp [madeCells, e, h3]
theorem zsX {C : Ctx} {L : List Assn} {g T j k : Nat} {h : H32} {rest : List Value} (hb : Has C L (Blk g T (hcs (List.replicate k h) ++ rest))) (hj : j ≤ k) : Has C L (SlA (some ⟨g, 0, none⟩) (hcs (List.replicate j h))) := by
 have e := Has.take (Has.blk hb) (j * 32)
 rwa [List.take_append_of_le_length (by rw [zdv]; omega), zd2, List.take_replicate, Nat.min_eq_left hj] at e
theorem znu (a b : Nat) (ha : a < 4294967296) (hb : b < 4294967296) (hab : a * b < 4294967296) (w0 : World) :
  Calls prog 210 #[.int .u64 (a : Int), .int .u64 (b : Int)] w0 (Post w0 [] fun v L => v = .tuple #[.int .u64 ((0 : Nat) : Int), .int .u64 ((a * b : Nat) : Int)] ∧ L = []) := by
 refine co 51 [.tmp 4, .tmp 5] func210 ?_
 refine gw ?_
 refine S.r (Qt.as (Qt.andN (b := 4294967295) rfl rfl km km) (and32 ha)) (gw ?_)
 refine S.r (Qt.as (Qt.shrN (s := 32) rfl rfl km) (shr32 ha)) (gw ?_)
 refine S.r (Qt.as (Qt.andN (b := 4294967295) rfl rfl km km) (and32 hb)) (gw ?_)
 refine S.r (Qt.as (Qt.shrN (s := 32) rfl rfl km) (shr32 hb)) (gw ?_)
 refine S.r (Qt.mul rfl rfl km) (gw ?_)
 refine S.r (Qt.as (Qt.mul rfl rfl km) (show _ = Value.int .u64 ((0 : Nat) : Int) by rw [Nat.zero_mul])) (gw ?_)
 refine S.r (Qt.as (Qt.shrN (s := 32) rfl rfl km) (shr32 hab)) ?_
 refine S.r (Qt.add (a := 0) (b := 0) rfl rfl km) (gw ?_)
 refine S.r (Qt.as (Qt.andN (b := 4294967295) rfl rfl km km) (and32 (by decide))) (gw ?_)
 refine S.r (Qt.as (Qt.shrN (s := 32) rfl rfl km) (shr32 (by decide))) (gw ?_)
 refine S.r (Qt.as (Qt.mul rfl rfl km) (show _ = Value.int .u64 ((0 : Nat) : Int) by rw [Nat.mul_zero])) ?_
 refine S.r (Qt.add (a := 0) (b := 0) rfl rfl km) (gw ?_)
 refine S.r (Qt.mul (a := 0) (b := 0) rfl rfl km) (gw ?_)
 refine S.r (Qt.as (Qt.add rfl rfl km) (show _ = Value.int .u64 ((0 : Nat) : Int) from rfl)) (gw ?_)
 refine S.r (Qt.as (Qt.shrN (s := 32) rfl rfl km) (shr32 (by decide))) ?_
 refine S.r (Qt.as (Qt.add rfl rfl km) (show _ = Value.int .u64 ((0 : Nat) : Int) from rfl)) (gw ?_)
 refine S.r (Qt.mul rfl rfl km) (gw ?_)
 refine TC.ret (fR ?_)
 exact ⟨rfl, rfl⟩
theorem zlp (a b : Nat) (ha : a < 4294967296) (hb : b < 4294967296) (hab : a * b < 4294967296) (w0 : World) :
  Calls prog 195 #[.int .u64 (a : Int), .int .u64 (b : Int)] w0 (Post w0 [] fun v L => v = .tuple #[.int .u64 ((0 : Nat) : Int), .int .u64 ((a * b : Nat) : Int)] ∧ L = []) := by
 refine co 30 [.tmp 4, .tmp 5] func195 ?_
 refine gw ?_
 refine S.c0 J210 (fun w hw => Calls.ret (znu a b ha hb hab w)) (gw ?_)
 refine TC.ret (fR ?_)
 exact ⟨rfl, rfl⟩
theorem ziR (E : Nat → H32) (hEm : ∀ w, Tabs 3 1 w [] → Calls prog 55 #[] w (Ret w (.agg (hcs (zbd E)).toArray))) (w0 : World) (hT : Tabs 3 1 w0 []) :
    Calls prog 164 #[.int .i64 ((0 : Nat) : Int)] w0 (Post w0 [] fun v L => v = .tuple #[hv (E 0), .nilIface] ∧ L = []) := by
  refine Calls.of (L := []) (n := 17) (rs := [.cell 2 49, .tmp 3]) func164 rfl rfl rfl (Nat.le_of_ble_eq_true rfl) (Sat.nil _) ?_
  refine TC.seq ?_
  refine TC.region ?_
  refine S.o (OpV.alloc zT (fun b2 => ?_))
  refine S.as ?_
  refine S.nil ?_
  refine TC.seq ?_
  refine TC.region ?_
  refine S.o (OpV.con0 J55 rfl (fun w hw => hEm w (hT.at hw)) ?_)
  refine S.o (OpV.alloc zT (fun b4 => ?_))
  refine S.opN rfl (OpV.storeV0 (v := .agg (hcs (zbd E)).toArray) rfl rfl (by rw [zav, zah, zaQ]; exact ce140) (zfg _) (by rw [zav, zah, zaQ, List.length_replicate]) ?_)
  refine S.nil ?_
  refine TC.seq ?_
  refine TC.seq ?_
  refine TC.region ?_
  refine S.mv ?_
  refine S.r (Qt.dF (Qt.lt (b := 0) rfl rfl) ow) ?_
  refine S.mv ?_
  refine S.qg rfl rfl rfl (Qt.move cw) ?_
  refine S.qg rfl rfl rfl (Qt.dF (Qt.ge (b := 33) rfl rfl) ow) ?_
  refine S.r (Qt.pick_f rfl cw) ?_
  refine S.nil ?_
  refine S.if_f rfl ?_
  refine TC.skip ?_
  refine TC.seq ?_
  refine TC.region ?_
  refine S.mv ?_
  refine S.r (Qt.indexB (i := 0) uT cT rfl rfl (by decide)) ?_
  refine S.r (Qt.as (Qt.load rfl (Ld.hashB (l := zbd E) hz0 0 rT ce49 (by rw [zaQ]; decide) rfl)) (by rw [zdJ E (by decide)])) ?_
  refine S.opN rfl (OpV.storeV1 (v := hv (E 0)) rfl rfl (zab ce49) (zai _) (zaf _) ?_)
  refine S.as ?_
  refine S.nil ?_
  refine TC.ret ?_
  refine finQ.ret (RVs.cell rfl (Ld.all hz1 rT (zab ce49)) rv) sn ?_
  exact ⟨rfl, rfl⟩
theorem zlq (A : OAd) (c : Nat) (h : H32) (n : Nat) (h1 : 1 ≤ n) (h2 : n ≤ 65536) (w0 : World) (hA : Ro w0 [] (SlA A (hvl h))) :
  Calls prog 165 #[.slice A 1 c, .int .i64 (n : Int)] w0 (Post w0 [] fun v L => ∃ O d, v = .slice O n d ∧ L = [OwnA 49 32 O n d (hcs (List.replicate n h))]) := by
 refine co 48 [.tmp 4] func165 ?_
 refine gw ?_
 refine S.r (Qt.dF (Qt.lt (b := 0) rfl rfl) ow) (gw ?_)
 refine S.r (Qt.convert (a := 1) uT uT rfl km) (gw ?_)
 refine S.r (Qt.convert uT uT rfl km) ?_
 refine S.c0 J195 (fun w hw => Calls.ret (zlp 1 n (by decide) ow ow w)) (gw ?_)
 refine S.r (Qt.dF (Qt.gt (b := 0) rfl rfl) ow) (gw ?_)
 refine S.qg rfl rfl rfl (Qt.dF (Qt.gt (b := 9223372036854775807) rfl rfl) ow) ?_
 refine S.r (Qt.pick_f rfl cw) ?_
 refine S.nil (S.if_f rfl (TC.skip (TC.seq (TC.region ?_))))
 refine S.r (Qt.as (Qt.move rfl) (show Value.int .u64 ((1 * n : Nat) : Int) = .int .u64 (n : Int) by rw [Nat.one_mul])) ?_
 refine S.r (Qt.convert uT uT rfl km) ?_
 refine S.o (OpV.makeS (n := n) (cs := List.replicate (n * 32) (.int .u8 0)) uT elem49 zv23 rfl rfl ow ow ow (zp4 n) (fun g30 => ?_))
 refine gw ?_
 refine S.o (OpV.copy0 (N := n) (news := hvl h) (cs' := hvl h ++ (List.replicate (n * 32) (Value.int .u8 0)).drop 32) uT cT rfl rfl (Has.ro hA) (by rw [zag]; omega) (List.all_eq_true.1 (zco _)) (by rw [zag, List.length_replicate]; omega) (by rw [zag, Nat.zero_add]; rfl) ?_)
 refine gw ?_
 refine TC.loop (γ := Nat × List Value) [34, 35, 36, 37, 38, 39, 40, 41, 42, 43, 44, 45, 46, 8] (fun g => [(8, .int .i64 ((g.1 : Nat) : Int))]) (fun g => [Blk g30 49 (hcs (List.replicate g.1 h) ++ g.2)]) (fun g => 1 ≤ g.1 ∧ g.1 ≤ n ∧ g.2.length = (n - g.1) * 32) (fun g => n - g.1) ((1, (List.replicate (n * 32) (Value.int .u8 0)).drop 32))
  ⟨Nat.le_refl _, h1, by rw [List.length_drop, List.length_replicate]; dsimp only; omega⟩ ⟨Out.refl _ _, (List.forall_mem_cons.2 ⟨(by show Value.int .i64 ((min 1 n : Nat) : Int) = .int .i64 ((1 : Nat) : Int); rw [Nat.min_eq_left h1]), (fun _ h => nomatch h)⟩)⟩ ((by dsimp only; rw [show hcs (List.replicate 1 h) = hvl h by simp [hcs]]; exact sr)) ?_
 rintro ⟨k, rest⟩ u ⟨hk1, hk2, hr⟩
 dsimp only at hk1 hk2 hr
 refine gw ?_
 refine S.dec rfl rfl (Qt.lt rfl rfl) (fun h37 => gw ?_) (fun h37 => gw ?_)
 ·refine dw ([7], []) (gw ?_)
  refine D.qY 3 rfl (Qt.as (v' := .slice (some ⟨g30, k * 32, none⟩) (n - k) (n - k)) (Qt.slice_lo uT cT rfl rfl ow) (by rw [if_neg ow]; show Value.slice (some (Addr.add ⟨g30, 0, none⟩ (k * 32))) _ _ = _; rw [zbh, Nat.zero_add])) (gw ?_)
  refine D.qY 6 rfl (Qt.slice_hi uT cT rfl rfl ow) ?_
  refine D.oS 7 rfl (OpV.copy0 (N := n - k) (news := hcs (List.replicate (min k (n - k)) h)) uT cT rfl rfl (zsX hz0 (Nat.min_le_left _ _)) (by rw [zdv]) (zeo _) (by rw [zdv, List.length_append, zdv, hr]; omega) (zru h rest k _ n hr (Nat.min_le_right _ _)) (sbk ?_))
  refine D.qY 8 rfl (Qt.add rfl rfl km) (gw ?_)
  refine D.fi ?_
  refine ⟨(k + min k (n - k), rest.drop ((min k (n - k)) * 32)), ?_, ?_, ⟨?_, ag⟩, sr⟩
  ·exact ⟨by show _ ≤ _; dsimp only; omega, by show _ ≤ _; dsimp only; omega, by rw [List.length_drop, hr]; dsimp only; omega⟩
  ·show _ < _; dsimp only; omega
  exact outs
 ·refine TC.exit (TC.seq (TC.region ?_))
  obtain rfl : n = k := by omega
  obtain rfl : rest = [] := List.eq_nil_of_length_eq_zero (by rw [hr]; omega)
  refine TL.shutOwn (n := n) (c := n) (sz := 32) (by rw [List.append_nil, zdv]) (Nat.le_refl _) (by simp only [maxLen]; omega) pr ?_
  rw [List.append_nil, List.take_of_length_le (by rw [zdv]; omega)]
  refine gw ?_
  refine TC.ret (fin1 sr ?_)
  exact ⟨_, _, rfl, rfl⟩
theorem zh6 (E : Nat → H32) (hEm : ∀ w, Tabs 3 1 w [] → Calls prog 55 #[] w (Ret w (.agg (hcs (zbd E)).toArray))) (hE0 : E 0 = shaH [0]) (A : OAd) (c : Nat) (B : OAd) (d : Nat) (o : Order) (hss : o.ss.length ≤ 65536) (hxx : o.xs.length ≤ 65536) (h : zbe o) (hk : o.kind ≠ 3) (w0 : World) (hlow : ∀ x ∈ o.xs, x < 18446744073709551616) (hR : Ro w0 [] (SlA A (u64s o.xs))) (hS : Ro w0 [] (SlA B (o.ss.flatMap zaD))) (hT : Tabs 3 1 w0 []) :
  Calls prog 101 #[.agg (zaX A c B d o).toArray] w0 (Post w0 [] fun v L => ∃ O q, v = .tuple #[.slice O o.xs.length q, .nilIface] ∧ L = [OwnA 49 32 O o.xs.length q (hcs ((List.range o.xs.length).map (zb8 o)))]) := by
 refine co 60 [.tmp 2, .tmp 3] func101 ?_
 obtain ⟨hsx, hi32⟩ := zrt h hk
 have hx1 : 0 < o.xs.length := hi32.1
 refine gw ?_
 intro b1
 refine gw ?_
 refine S.r (Qt.load rfl (Ld.all (vs := zaX A c B d o) hz0 rT ce58)) ?_
 refine S.c0 J99 (fun w hw => (by have q := zcK A c B d o hss hxx w hlow (Rd.ro hR w hw) (Rd.ro hS w hw); rw [decide_eq_true h] at q; exact q : Calls prog 99 #[.agg (zaX A c B d o).toArray] w (Ret w (.bool true)))) (gw ?_)
 refine S.qg rfl rfl rfl (Qt.dF (Qt.eqi rfl rfl) (hk)) (gw ?_)
 refine S.c0 J164 (fun w hw => Calls.ret (ziR E hEm w (hT.at hw))) (gw ?_)
 intro b4
 refine S.opN rfl (OpV.storeV0 (v := hv (E 0)) rfl rfl (zab ce49) (zai _) (zaf _) ?_)
 refine gw ?_
 refine S.o (OpV.slice1 (bytes := 32) (v := hv (E 0)) uT elem49 (by decide) rfl (zaf _) (fun g28 => ?_))
 refine gw ?_
 refine S.cn J165 (fun w hw => zlq (some ⟨g28, 0, none⟩) 1 (E 0) o.xs.length hx1 hxx w (Rd.blk (cs := hvl (E 0)) (Rd.at 0 rfl) w hw)) ?_
 rintro v L' ⟨O, d2, rfl, rfl⟩
 refine TL.openOwnP hx1 (fun g cs hO hct hcl hnc hcm => ?_)
 subst hO
 obtain ⟨rest, rfl⟩ : ∃ rest, cs = hcs (zft o (E 0) 0) ++ rest := ⟨_, by rw [znl]; exact zjj hct⟩
 refine gw ?_
 refine TC.loop (γ := Nat) [37, 38, 39, 40, 8, 7, 42, 43, 44, 45, 46, 47, 48, 41, 49, 50, 9, 10, 51, 52, 53, 2, 3, 54, 55, 56, 57, 58, 36] (fun k => [(36, .int .i64 (k : Int))]) (fun k => [Blk g 49 (hcs (zft o (E 0) k) ++ rest), Blk b4 49 (vl (hv (E 0))), Blk b1 58 (zaX A c B d o)]) (fun k => k ≤ o.ss.length) (fun k => o.ss.length - k) (0)
  (Nat.zero_le _) ⟨Out.refl _ _, ag⟩ (Sub.trans (sk (sk (sk (sd sn0)))) (sk (Sub.trans (sk (Sub.trans (sk sr) (Sub.of_perm pm1))) (Sub.of_perm pm1)))) ?_
 rintro k u hk2
 refine gw ?_
 refine S.dec rfl rfl (Qt.lt rfl rfl) (fun h37 => gw ?_) (fun h37 => gw ?_)
 ·refine S.r (Qt.index uT cT rfl rfl ow (Has.ro hS) (by rw [zdV]; omega)) ?_
  refine S.r (Qt.load rfl (Ld.slr (vs := zaD (o.ss.getD k zb7)) (Has.ro hS) rT (by rw [zam]; exact ce136) (by rw [zam]; decide) (zf1 ow rfl))) (gw ?_)
  intro b8
  refine gw ?_
  refine S.opN rfl (OpV.storeV0 (v := .agg (zaD (o.ss.getD k zb7)).toArray) rfl rfl (by rw [zav, zam]; exact ce136) (zdW _) (by rw [zav, zam]; rfl) ?_)
  refine gw ?_
  refine dr ([11], [10]) (gw ?_)
  refine D.qY 3 rfl (Qt.index uT cT rfl rfl ow (Has.ro hR) (by rw [zbi]; omega)) ?_
  refine D.qY 4 rfl (Qt.load rfl (Ld.sl (v := .int .u64 (((o.xs.getD k 0) : Nat) : Int)) (Has.ro hR) oT (zbO ow))) ?_
  refine D.qY 5 rfl (Qt.load rfl (Ld.all (vs := zaD (o.ss.getD k zb7)) hz0 rT (by rw [zam]; exact ce136))) ?_
  refine D.c0 6 rfl J56 (fun w hw => Calls.ret (zgS (o.xs.getD k 0) (hi32.low _ (zbk 0 ow)) (o.ss.getD k zb7) w (hT.at hw))) (gw ?_)
  refine D.nN 10 rfl (OpV.alloc zT (fun b9 => (sbk ?_)))
  refine D.oN 11 rfl (OpV.storeV0 (v := hv (shaH (zcN (o.xs.getD k 0) (o.ss.getD k zb7)))) rfl rfl (zab ce49) (zai _) (zaf _) (sbk ?_))
  refine gw ?_
  refine D.fi (gw ?_)
  refine S.r (Qt.indexS uT cT rfl rfl ow) ?_
  refine S.opN rfl (OpV.storeR2 (v := hv (shaH (zcN (o.xs.getD k 0) (o.ss.getD k zb7)))) rfl rfl (zab ce49) (zai _) (by rw [zaf, List.length_append, zah, ze6]; omega) (by rw [Nat.zero_add, zgv _ _ _ _ (by rw [ze6]; omega), zpA o (E 0) ow]) ?_)
  refine gw ?_
  refine ⟨k + 1, ?_, ?_, ⟨?_, ag⟩, Sub.trans (sk (sk (sk (sd (sd sn0))))) (Sub.trans (sk (Sub.trans (sk (Sub.trans (sk sr) (Sub.of_perm pm2))) (Sub.of_perm pm2))) (Sub.of_perm pm2))⟩
  ·show _ ≤ _; omega
  ·show _ < _; dsimp only; omega
  exact outs
 ·refine TC.exit (TC.seq (TC.region ?_))
  obtain rfl : k = o.ss.length := by omega
  refine TL.shutOwn (n := o.xs.length) (c := d2) (sz := 32) (by rw [List.length_append, zah, ze6] at hcl ⊢; exact hcl) hnc hcm pr ?_
  rw [List.take_left' (by rw [zah, ze6])]
  refine gw ?_
  refine TC.ret (finQ.ret rv (sk (sd (sd sn0))) ?_)
  exact ⟨_, d2, rfl, by rw [hE0, zpB h hk]⟩
theorem J100 : zae prog 100 := ⟨_, func100, by kernel_rfl, rfl⟩
theorem J101 : zae prog 101 := ⟨_, func101, by kernel_rfl, rfl⟩
theorem J161 : zae prog 161 := ⟨_, func161, by kernel_rfl, rfl⟩
theorem J162 : zae prog 162 := ⟨_, func162, by kernel_rfl, rfl⟩
theorem J163 : zae prog 163 := ⟨_, func163, by kernel_rfl, rfl⟩
theorem zh7 (b3 q x : Nat) (s : Sealed) (w0 : World) (h3 : Ro w0 [] (Blk b3 40 [.int .u64 (q : Int)])) :
  Calls prog 163 #[.int .u64 (x : Int), .agg (zaD s).toArray, .pointer (some ⟨b3, 0, none⟩)] w0 (Post w0 [] fun v L => v = .bool (decide (q ≤ x)) ∧ L = []) := by
 refine co 9 [.tmp 5] func163 ?_
 refine gw ?_
 intro b4
 refine gw ?_
 refine S.dec rfl rfl (Qt.ge rfl rfl) (fun h8 => gw ?_) (fun h8 => gw ?_)
 ·refine TC.ret (fR ?_)
  exact ⟨by rw [decide_eq_true (show q ≤ x from h8)]; rfl, rfl⟩
 ·refine TC.ret (fR ?_)
  exact ⟨by rw [decide_eq_false (show ¬ q ≤ x from h8)]; rfl, rfl⟩
theorem zsY (b3 q x : Nat) (s : Sealed) (w0 : World) (h3 : Ro w0 [] (Blk b3 40 [.int .u64 (q : Int)])) (h : q ≤ x) : Calls prog 163 #[.int .u64 (x : Int), .agg (zaD s).toArray, .pointer (some ⟨b3, 0, none⟩)] w0 (Ret w0 (.bool true)) :=
 Calls.ret ((zh7 b3 q x s w0 h3).mono fun e w ⟨v, L, h1, h2, h3, h4⟩ => ⟨v, L, h1, h2, by rw [h3, decide_eq_true h], h4⟩)
theorem zsZ (b3 q x : Nat) (s : Sealed) (w0 : World) (h3 : Ro w0 [] (Blk b3 40 [.int .u64 (q : Int)])) (h : ¬ q ≤ x) : Calls prog 163 #[.int .u64 (x : Int), .agg (zaD s).toArray, .pointer (some ⟨b3, 0, none⟩)] w0 (Ret w0 (.bool false)) :=
 Calls.ret ((zh7 b3 q x s w0 h3).mono fun e w ⟨v, L, h1, h2, h3, h4⟩ => ⟨v, L, h1, h2, by rw [h3, decide_eq_false h], h4⟩)
theorem zlr (bm b3 q : Nat) (ms : Sm) (w0 : World) (hL : Sat w0 [MapA bm encU sv ms]) (h3 : Ro w0 [bm] (Blk b3 40 [.int .u64 (q : Int)])) :
    Calls prog 162 #[.map (some bm), .func (.func 163) #[] #[.pointer (some ⟨b3, 0, none⟩)]] w0 (Post w0 [bm] fun v L => L = [MapA bm encU sv (cutS q ms)]) := by
  refine Calls.of (L := [MapA bm encU sv ms]) (n := 19) (rs := []) func162 rfl rfl rfl (Nat.le_of_ble_eq_true rfl) (hL) ?_
  refine TC.mapNodup hz0 (fun hn => ?_)
  refine TC.seq ?_
  refine TC.region ?_
  refine S.mv ?_
  refine S.o (OpV.range0 uT rfl (fun it => ?_))
  refine S.nil ?_
  refine TC.block ?_
  refine TC.loop (γ := List Nat) [8, 9, 10, 11, 12, 5, 4, 13, 14, 15, 16, 17, 18] (fun done => []) (fun done => [MapI bm it encU sv (curS q ms done) done]) (fun done => done.Nodup ∧ ∀ x ∈ done, x ∈ zas ms) (fun done => ms.length - done.length) ([])
    ⟨List.nodup_nil, (fun _ h => nomatch h)⟩ ⟨Out.refl _ _, (fun _ h => nomatch h)⟩ (by rw [zrq]; exact sr) ?_
  rintro done u hinv
  refine TC.seq ?_
  refine TC.region ?_
  refine S.o (OpV.nextI0 (fun _ _ => zlG) rfl (fun hend => ?_) (fun x a hm hd => ?_))
  · refine TL.endI0 ?_
    refine S.r (Qt.extract rfl rfl) ?_
    refine S.nil ?_
    refine TC.seq ?_
    refine S.if_f rfl ?_
    refine TC.exit ?_
    refine finQ.normal RVs.nil sr ?_
    rw [zrs hend]
  · refine S.r (Qt.extract rfl rfl) ?_
    refine S.nil ?_
    refine TC.seq ?_
    refine S.if_t rfl ?_
    refine TC.skip ?_
    refine TC.block ?_
    refine TC.seq ?_
    refine TC.region ?_
    refine S.r (Qt.entryI (fun _ _ => zlG) rfl hz0 hm) ?_
    refine S.r (Qt.extract rfl rfl) ?_
    refine S.r (Qt.extract rfl rfl) ?_
    refine S.o (OpV.alloc zT (fun b5 => ?_))
    refine S.as ?_
    refine S.opN rfl (OpV.storeV0 (v := .agg (zaD a).toArray) rfl rfl (by rw [zav, zam]; exact ce136) (zdW _) (by rw [zav, zam]; rfl) ?_)
    refine S.nil ?_
    refine TC.seq ?_
    refine TC.region ?_
    refine S.mv ?_
    refine S.mv ?_
    refine S.r (Qt.load rfl (Ld.all (vs := zaD a) hz0 rT (by rw [zam]; exact ce136))) ?_
    by_cases hq : q ≤ x
    · refine S.o (OpV.con0 J163 rfl (fun w hw => zsY b3 q x a w (Rd.ro h3 w hw) hq) ?_)
      refine S.nil ?_
      refine S.if_t rfl ?_
      refine TC.region ?_
      refine S.mv ?_
      refine S.mv ?_
      refine S.opN rfl (OpV.delI1 rfl uT Tryz.keyU rfl rfl ?_)
      refine S.nil ?_
      refine ⟨done ++ [x], ?_, ?_, ⟨?_, (fun _ h => nomatch h)⟩, (by dsimp only; rw [← zrr hn done hq]; exact sd sr)⟩
      · exact (zci hinv.1 hinv.2 (zf7 hm) hd).1
      · exact (zci hinv.1 hinv.2 (zf7 hm) hd).2
      repeat (first | exact Out.refl _ _ | refine Out.put rfl ?_ | refine Out.puts rfl ?_ | refine Out.scr ?_ | refine Out.scr' rfl ?_)
    · refine S.o (OpV.con0 J163 rfl (fun w hw => zsZ b3 q x a w (Rd.ro h3 w hw) hq) ?_)
      refine S.nil ?_
      refine S.if_f rfl ?_
      refine TC.skip ?_
      refine ⟨done ++ [x], ?_, ?_, ⟨?_, (fun _ h => nomatch h)⟩, (by dsimp only; rw [zpz ms done hq]; exact sd sr)⟩
      · exact (zci hinv.1 hinv.2 (zf7 hm) hd).1
      · exact (zci hinv.1 hinv.2 (zf7 hm) hd).2
      repeat (first | exact Out.refl _ _ | refine Out.put rfl ?_ | refine Out.puts rfl ?_ | refine Out.scr ?_ | refine Out.scr' rfl ?_)
theorem zhm (E : Nat → H32) (hEm : ∀ w, Tabs 3 1 w [] → Calls prog 55 #[] w (Ret w (.agg (hcs (zbd E)).toArray))) (hE : ∀ h, E (h + 1) = zbj (h + 1) (E h) (E h)) (qb n sm tb mb : Nat) (Y : Sm) (ms : Tm) (g : Nat → H32) (ht : TreeOk E (hgt n) g ms) (hn : (lv0 (zas ms)).length < 4294967296) (q : Nat) (hq : okN q) (w0 : World) (hL : Sat w0 [Blk qb 160 [.int .u64 (n : Int), .map (some sm), .pointer (some ⟨tb, 0, none⟩)], MapA sm encU sv Y, Blk tb 243 (zar E (hgt n) mb), MapA mb zau hv ms]) (hT : Tabs 3 1 w0 (fps [Blk qb 160 [.int .u64 (n : Int), .map (some sm), .pointer (some ⟨tb, 0, none⟩)], MapA sm encU sv Y, Blk tb 243 (zar E (hgt n) mb), MapA mb zau hv ms])) :
    Calls prog 100 #[.pointer (some ⟨qb, 0, none⟩), .int .u64 (q : Int)] w0 (Post w0 (fps [Blk qb 160 [.int .u64 (n : Int), .map (some sm), .pointer (some ⟨tb, 0, none⟩)], MapA sm encU sv Y, Blk tb 243 (zar E (hgt n) mb), MapA mb zau hv ms]) fun v L => ∃ tb2 m2 ms2, v = .nilIface ∧ L = [Blk qb 160 [.int .u64 (q : Int), .map (some sm), .pointer (some ⟨tb2, 0, none⟩)], MapA sm encU sv (cutS q Y), Blk tb2 243 (zar E (hgt q) m2), MapA m2 zau hv ms2] ∧ TreeOk E (hgt q) (cutF E g (lvT ms) q) ms2) := by
  refine Calls.of (L := [Blk qb 160 [.int .u64 (n : Int), .map (some sm), .pointer (some ⟨tb, 0, none⟩)], MapA sm encU sv Y, Blk tb 243 (zar E (hgt n) mb), MapA mb zau hv ms]) (n := 33) (rs := [.tmp 4]) func100 rfl rfl rfl (Nat.le_of_ble_eq_true rfl) (hL) ?_
  refine TC.seq ?_
  refine TC.region ?_
  refine S.o (OpV.box (v := .int .u64 (q : Int)) rfl (fun b3 => ?_))
  refine S.as ?_
  refine S.nil ?_
  refine TC.seq ?_
  refine dw ([], [5]) ?_
  refine D.qY 0 rfl (Qt.move cw) ?_
  refine D.qY 1 rfl (Qt.nilCheck rfl) ?_
  refine D.qY 2 rfl (Qt.field uT rfl ce155 rfl) ?_
  refine D.qY 3 rfl (Qt.load rfl (Ld.one (v := .pointer (some ⟨tb, 0, none⟩)) hz1 oT rfl)) ?_
  refine D.qY 4 rfl (Qt.load rfl (Ld.one (v := .int .u64 (q : Int)) hz0 oT rfl)) ?_
  refine D.nS (k := 5) sn rfl (by kernel_rfl) (by kernel_rfl) rfl rfl (OpV.con (Pre := []) (R := _) J161 rfl pr (fun w hw => ziQ E hEm hE tb mb (hgt n) ms g ht hn q hq w (Rd.at 3 rfl w hw) (Rd.at 4 rfl w hw) (hT.at hw)) ?_)
  rintro v L' ⟨tb2, m2, ms2, rfl, rfl, ht2⟩
  refine ⟨sd (sd (sk (sk (sk (sk (sk sn0)))))), ?_⟩
  refine D.qY 6 rfl (Qt.move cw) ?_
  refine D.qY 7 rfl (Qt.extract rfl rfl) ?_
  refine D.qY 8 rfl (Qt.extract rfl rfl) ?_
  refine D.qY 9 rfl (Qt.assign cw) ?_
  refine D.qY 10 rfl (Qt.assign cw) ?_
  refine D.done sn (by kernel_rfl) ?_
  refine TC.seq ?_
  refine TC.seq ?_
  refine TC.region ?_
  refine S.mv ?_
  refine S.r (Qt.nenil_nil uT rfl) ?_
  refine S.nil ?_
  refine S.if_f rfl ?_
  refine TC.skip ?_
  refine TC.seq ?_
  refine TC.region ?_
  refine S.mv ?_
  refine S.r (Qt.nilCheck rfl) ?_
  refine S.r (Qt.field uT rfl ce158 rfl) ?_
  refine S.r (Qt.load rfl (Ld.one (v := .map (some sm)) hz3 oT rfl)) ?_
  refine S.r (Qt.makeFuncL (fs := []) (cs := [.pointer (some ⟨b3, 0, none⟩)]) rfl rfl) ?_
  refine S.o (OpV.con (Pre := [MapA sm encU sv Y]) (R := _) J162 rfl pm4 (fun w hw => zlr sm b3 q Y w hw.sat.left (Ro.of_rest hw (List.mem_of_getElem? (i := 2) rfl))) ?_)
  rintro v L' rfl
  refine S.nil ?_
  refine TC.seq ?_
  refine S.draw ([6, 9], []) mixed (sk (sk (sk (sk (sd (sk (sk sn0))))))) ?_
  refine D.qY 0 rfl (Qt.move cw) ?_
  refine D.p 1 rfl (Qt.move cw) ?_
  refine D.qY 2 rfl (Qt.move cw) ?_
  refine D.p 3 rfl (Qt.load rfl (Ld.one (v := .int .u64 (q : Int)) hz3 oT rfl)) ?_
  refine D.qY 4 rfl (Qt.nilCheck rfl) ?_
  refine D.qY 5 rfl (Qt.field uT rfl ce155 rfl) ?_
  refine D.opN (k := 6) (sk (sk (sk (sk (sd (sk (sk sn0))))))) rfl (by kernel_rfl) (by kernel_rfl) rfl (OpV.storeC4 rfl cw cT rfl rfl (Nat.le_of_ble_eq_true rfl) ⟨sk (sk (sk (sk (sd (sk (sk sn0)))))), ?_⟩)
  refine D.qY 7 rfl (Qt.nilCheck rfl) ?_
  refine D.qY 8 rfl (Qt.field uT rfl ce40 rfl) ?_
  refine D.opN (k := 9) (sk (sk (sk (sk (sd (sk (sk sn0))))))) rfl (by kernel_rfl) (by kernel_rfl) rfl (OpV.storeC4 rfl cw cT rfl rfl (Nat.le_of_ble_eq_true rfl) ⟨sk (sk (sk (sk (sd (sk (sk sn0)))))), ?_⟩)
  refine D.done (sk (sk (sk (sk (sd (sk (sk sn0))))))) (by kernel_rfl) ?_
  refine TC.seq ?_
  refine TC.region ?_
  refine S.as ?_
  refine S.nil ?_
  refine TC.ret (finQ.ret rv (Sub.trans (sk (sk (sk (sk (sd (sd (sd sn0))))))) (Sub.trans (sk sr) (Sub.of_perm pm4))) ?_)
  exact ⟨tb2, m2, ms2, rfl, rfl, ht2⟩
theorem znv (qb : Nat) (A : OAd) (c : Nat) (B : OAd) (d : Nat) (o : Order) (hss : o.ss.length ≤ 65536) (hxx : o.xs.length ≤ 65536) (h : ¬ zbe o) (w0 : World) (hlow : ∀ x ∈ o.xs, x < 18446744073709551616) (hR : Ro w0 [] (SlA A (u64s o.xs))) (hS : Ro w0 [] (SlA B (o.ss.flatMap zaD))) :
  Calls prog 38 #[.pointer (some ⟨qb, 0, none⟩), .agg (zaX A c B d o).toArray] w0 (Post w0 [] fun v L => v = .iface 73 (.int .i64 2) ∧ L = []) := by
 refine co 84 [.tmp 4] func38 ?_
 refine gw ?_
 intro b3
 refine gw ?_
 refine S.r (Qt.load rfl (Ld.all (vs := zaX A c B d o) hz0 rT ce58)) ?_
 refine S.c0 J99 (fun w hw => (by have q := zcK A c B d o hss hxx w hlow (Rd.ro hR w hw) (Rd.ro hS w hw); rw [decide_eq_false h] at q; exact q : Calls prog 99 #[.agg (zaX A c B d o).toArray] w (Ret w (.bool false)))) (gw ?_)
 refine TC.ret (fR ?_)
 exact ⟨rfl, rfl⟩
theorem znw (qb n sm tb : Nat) (A : OAd) (c : Nat) (B : OAd) (d : Nat) (o : Order) (hss : o.ss.length ≤ 65536) (hxx : o.xs.length ≤ 65536) (h : zbe o) (hf : ¬ zce o n) (w0 : World) (hQ : Ro w0 [] (Blk qb 160 [.int .u64 (n : Int), .map (some sm), .pointer (some ⟨tb, 0, none⟩)])) (hlow : ∀ x ∈ o.xs, x < 18446744073709551616) (hR : Ro w0 [] (SlA A (u64s o.xs))) (hS : Ro w0 [] (SlA B (o.ss.flatMap zaD))) :
  Calls prog 38 #[.pointer (some ⟨qb, 0, none⟩), .agg (zaX A c B d o).toArray] w0 (Post w0 [] fun v L => v = .iface 73 (.int .i64 1) ∧ L = []) := by
 refine co 84 [.tmp 4] func38 ?_
 refine gw ?_
 intro b3
 refine gw ?_
 refine S.r (Qt.load rfl (Ld.all (vs := zaX A c B d o) hz0 rT ce58)) ?_
 refine S.c0 J99 (fun w hw => (by have q := zcK A c B d o hss hxx w hlow (Rd.ro hR w hw) (Rd.ro hS w hw); rw [decide_eq_true h] at q; exact q : Calls prog 99 #[.agg (zaX A c B d o).toArray] w (Ret w (.bool true)))) (gw ?_)
 refine dw ([], []) ?_
 refine D.qY 0 rfl (Qt.load rfl (Ld.all (vs := zaX A c B d o) hz0 rT ce58)) (gw ?_)
 refine D.c0 5 rfl J93 (fun w hw => (by have q := zdq A c B d o hss hxx n w hlow (Rd.ro hR w hw) (Rd.ro hS w hw); rw [decide_eq_false hf] at q; exact q : Calls prog 93 #[.agg (zaX A c B d o).toArray, .int .u64 (n : Int)] w (Ret w (.bool false)))) (gw ?_)
 refine D.fi (gw ?_)
 refine TC.ret (fR ?_)
 exact ⟨rfl, rfl⟩
theorem znx (E : Nat → H32) (hEm : ∀ w, Tabs 3 1 w [] → Calls prog 55 #[] w (Ret w (.agg (hcs (zbd E)).toArray))) (hE : ∀ h, E (h + 1) = zbj (h + 1) (E h) (E h)) (hE0 : E 0 = shaH [0]) (cN : Nat) (hcN : cN < 4294967296) (qb n sm tb mb : Nat) (Y : Sm) (ms : Tm) (A : OAd) (c : Nat) (B : OAd) (d : Nat) (o : Order) (hss : o.ss.length ≤ 65536) (hxx : o.xs.length ≤ 65536) (hf : zce o n) (hk : o.kind = 3) (hok : TruOk E n Y ms cN) (w0 : World) (hL : Sat w0 [Blk qb 160 [.int .u64 (n : Int), .map (some sm), .pointer (some ⟨tb, 0, none⟩)], MapA sm encU sv Y, Blk tb 243 (zar E (hgt n) mb), MapA mb zau hv ms]) (hlow : ∀ x ∈ o.xs, x < 18446744073709551616) (hR : Ro w0 (fps [Blk qb 160 [.int .u64 (n : Int), .map (some sm), .pointer (some ⟨tb, 0, none⟩)], MapA sm encU sv Y, Blk tb 243 (zar E (hgt n) mb), MapA mb zau hv ms]) (SlA A (u64s o.xs))) (hS : Ro w0 (fps [Blk qb 160 [.int .u64 (n : Int), .map (some sm), .pointer (some ⟨tb, 0, none⟩)], MapA sm encU sv Y, Blk tb 243 (zar E (hgt n) mb), MapA mb zau hv ms]) (SlA B (o.ss.flatMap zaD))) (hT : Tabs 3 1 w0 (fps [Blk qb 160 [.int .u64 (n : Int), .map (some sm), .pointer (some ⟨tb, 0, none⟩)], MapA sm encU sv Y, Blk tb 243 (zar E (hgt n) mb), MapA mb zau hv ms])) :
  Calls prog 38 #[.pointer (some ⟨qb, 0, none⟩), .agg (zaX A c B d o).toArray] w0 (Post w0 (fps [Blk qb 160 [.int .u64 (n : Int), .map (some sm), .pointer (some ⟨tb, 0, none⟩)], MapA sm encU sv Y, Blk tb 243 (zar E (hgt n) mb), MapA mb zau hv ms]) fun v L => ∃ tb2 m2 ms2, v = .nilIface ∧ L = [Blk qb 160 [.int .u64 (o.blocks : Int), .map (some sm), .pointer (some ⟨tb2, 0, none⟩)], MapA sm encU sv (cutS o.blocks Y), Blk tb2 243 (zar E (hgt o.blocks) m2), MapA m2 zau hv ms2] ∧ TruOk E o.blocks (cutS o.blocks Y) ms2 cN) := by
 refine cof (L := [Blk qb 160 [.int .u64 (n : Int), .map (some sm), .pointer (some ⟨tb, 0, none⟩)], MapA sm encU sv Y, Blk tb 243 (zar E (hgt n) mb), MapA mb zau hv ms]) 84 [.tmp 4] func38 hL ?_
 refine gw ?_
 intro b3
 refine gw ?_
 refine S.r (Qt.load rfl (Ld.all (vs := zaX A c B d o) hz0 rT ce58)) ?_
 refine S.c0 J99 (fun w hw => (by have q := zcK A c B d o hss hxx w hlow (Rd.ro hR w hw) (Rd.ro hS w hw); rw [decide_eq_true hf.1] at q; exact q : Calls prog 99 #[.agg (zaX A c B d o).toArray] w (Ret w (.bool true)))) (gw ?_)
 refine dw ([], []) ?_
 refine D.qY 0 rfl (Qt.load rfl (Ld.all (vs := zaX A c B d o) hz0 rT ce58)) (gw ?_)
 refine D.c0 5 rfl J93 (fun w hw => (by have q := zdq A c B d o hss hxx n w hlow (Rd.ro hR w hw) (Rd.ro hS w hw); rw [decide_eq_true hf] at q; exact q : Calls prog 93 #[.agg (zaX A c B d o).toArray, .int .u64 (n : Int)] w (Ret w (.bool true)))) (gw ?_)
 refine D.fi (gw ?_)
 refine S.r (Qt.dT (Qt.eqi rfl rfl) (hk)) (gw ?_)
 refine S.o (OpV.con (Pre := [Blk qb 160 [.int .u64 (n : Int), .map (some sm), .pointer (some ⟨tb, 0, none⟩)], MapA sm encU sv Y, Blk tb 243 (zar E (hgt n) mb), MapA mb zau hv ms]) (R := _) J100 rfl (pm1.trans (pc (pm1.trans (pc (pm1.trans (pc pm1)))))) (fun w hw => zhm E hEm hE qb n sm tb mb Y ms _ hok.ok (hok.cnt hE0 hcN) o.blocks (za3 hf hk) w hw.sat.left (hT.pre hw)) ?_)
 rintro v L' ⟨tb2, m2, ms2, rfl, rfl, ht2⟩
 refine gw ?_
 refine TC.ret (fin1 (sk (sk (sk (sk (sd sn0))))) ?_)
 exact ⟨tb2, m2, ms2, rfl, rfl, hok.cut hE0 (za3 hf hk) ht2⟩
theorem zny (E : Nat → H32) (hEm : ∀ w, Tabs 3 1 w [] → Calls prog 55 #[] w (Ret w (.agg (hcs (zbd E)).toArray))) (hE0 : E 0 = shaH [0]) (cN : Nat) (qb n sm tb mb : Nat) (Y : Sm) (ms : Tm) (A : OAd) (c : Nat) (B : OAd) (d : Nat) (o : Order) (hss : o.ss.length ≤ 65536) (hxx : o.xs.length ≤ 65536) (hf : zce o n) (hk : o.kind ≠ 3) (hok : TruOk E n Y ms cN) (w0 : World) (hL : Sat w0 [Blk qb 160 [.int .u64 (n : Int), .map (some sm), .pointer (some ⟨tb, 0, none⟩)], MapA sm encU sv Y, Blk tb 243 (zar E (hgt n) mb), MapA mb zau hv ms]) (hlow : ∀ x ∈ o.xs, x < 18446744073709551616) (hR : Ro w0 (fps [Blk qb 160 [.int .u64 (n : Int), .map (some sm), .pointer (some ⟨tb, 0, none⟩)], MapA sm encU sv Y, Blk tb 243 (zar E (hgt n) mb), MapA mb zau hv ms]) (SlA A (u64s o.xs))) (hS : Ro w0 (fps [Blk qb 160 [.int .u64 (n : Int), .map (some sm), .pointer (some ⟨tb, 0, none⟩)], MapA sm encU sv Y, Blk tb 243 (zar E (hgt n) mb), MapA mb zau hv ms]) (SlA B (o.ss.flatMap zaD))) (hT : Tabs 3 1 w0 (fps [Blk qb 160 [.int .u64 (n : Int), .map (some sm), .pointer (some ⟨tb, 0, none⟩)], MapA sm encU sv Y, Blk tb 243 (zar E (hgt n) mb), MapA mb zau hv ms])) :
  Calls prog 38 #[.pointer (some ⟨qb, 0, none⟩), .agg (zaX A c B d o).toArray] w0 (Post w0 (fps [Blk qb 160 [.int .u64 (n : Int), .map (some sm), .pointer (some ⟨tb, 0, none⟩)], MapA sm encU sv Y, Blk tb 243 (zar E (hgt n) mb), MapA mb zau hv ms]) fun v L => ∃ ms2, v = .nilIface ∧ L = [Blk qb 160 [.int .u64 (n : Int), .map (some sm), .pointer (some ⟨tb, 0, none⟩)], MapA sm encU sv (runS o Y o.xs.length), Blk tb 243 (zar E (hgt n) mb), MapA mb zau hv ms2] ∧ TruOk E n (runS o Y o.xs.length) ms2 (cN + o.xs.length)) := by
 refine cof (L := [Blk qb 160 [.int .u64 (n : Int), .map (some sm), .pointer (some ⟨tb, 0, none⟩)], MapA sm encU sv Y, Blk tb 243 (zar E (hgt n) mb), MapA mb zau hv ms]) 84 [.tmp 4] func38 hL ?_
 have hh := zb0 hok.on
 have hnl := zdA hok.on
 refine gw ?_
 intro b3
 refine gw ?_
 refine S.r (Qt.load rfl (Ld.all (vs := zaX A c B d o) hz0 rT ce58)) ?_
 refine S.c0 J99 (fun w hw => (by have q := zcK A c B d o hss hxx w hlow (Rd.ro hR w hw) (Rd.ro hS w hw); rw [decide_eq_true hf.1] at q; exact q : Calls prog 99 #[.agg (zaX A c B d o).toArray] w (Ret w (.bool true)))) (gw ?_)
 refine dw ([], []) ?_
 refine D.qY 0 rfl (Qt.load rfl (Ld.all (vs := zaX A c B d o) hz0 rT ce58)) (gw ?_)
 refine D.c0 5 rfl J93 (fun w hw => (by have q := zdq A c B d o hss hxx n w hlow (Rd.ro hR w hw) (Rd.ro hS w hw); rw [decide_eq_true hf] at q; exact q : Calls prog 93 #[.agg (zaX A c B d o).toArray, .int .u64 (n : Int)] w (Ret w (.bool true)))) (gw ?_)
 refine D.fi (gw ?_)
 refine S.r (Qt.dF (Qt.eqi rfl rfl) (hk)) (gw ?_)
 refine S.r (Qt.load rfl (Ld.all (vs := zaX A c B d o) hz0 rT ce58)) ?_
 refine S.cn J101 (fun w hw => zh6 E hEm hE0 A c B d o hss hxx hf.1 hk w hlow (Rd.ro hR w hw) (Rd.ro hS w hw) (hT.at hw)) ?_
 rintro v L' ⟨O, q2, rfl, rfl⟩
 refine gw ?_
 refine TC.loop (γ := Nat × Tm) [48, 49, 50, 51, 7, 8, 52, 53, 54, 55, 56, 57, 58, 59, 60, 61, 62, 63, 64, 65, 66, 67, 68, 69, 70, 71, 72, 73, 74, 75, 76, 77, 78, 79, 9, 80, 81, 82, 4, 83, 47] (fun g => [(47, .int .i64 ((g.1 : Nat) : Int))]) (fun g => [OwnA 49 32 O o.xs.length q2 (hcs ((List.range o.xs.length).map (zb8 o))), Blk qb 160 [.int .u64 (n : Int), .map (some sm), .pointer (some ⟨tb, 0, none⟩)], MapA sm encU sv (runS o Y g.1), Blk tb 243 (zar E (hgt n) mb), MapA mb zau hv g.2, Blk b3 58 (zaX A c B d o)]) (fun g => g.1 ≤ o.xs.length ∧ TruOk E n (runS o Y g.1) g.2 (cN + g.1)) (fun g => o.xs.length - g.1) ((0, ms))
  ⟨Nat.zero_le _, hok⟩ ⟨Out.refl _ _, ag⟩ (sk (Sub.trans (sk (Sub.trans (sk (Sub.trans (sk (Sub.trans (sk sr) (Sub.of_perm pm1))) (Sub.of_perm pm1))) (Sub.of_perm pm1))) (Sub.of_perm pm1))) ?_
 rintro ⟨k, ms2⟩ u ⟨hk4, hok2⟩
 dsimp only at hk4 hok2
 refine gw ?_
 refine S.dec rfl rfl (Qt.lt rfl rfl) (fun h48 => gw ?_) (fun h48 => gw ?_)
 ·refine S.r (Qt.index uT cT rfl rfl ow (Has.ro hR) (by rw [zbi]; omega)) ?_
  refine S.r (Qt.load rfl (Ld.sl (v := .int .u64 (((o.xs.getD k 0) : Nat) : Int)) (Has.ro hR) oT (zbO ow))) ?_
  have hxk : (o.xs.getD k 0) < n := hf.2 _ (zbk 0 ow)
  refine gw ?_
  refine S.opN rfl (OpV.mapDel2 (k := (o.xs.getD k 0)) rfl uT Tryz.keyU rfl rfl ?_)
  refine gw ?_
  refine S.dec rfl rfl (Qt.eqi rfl rfl) (fun h59 => gw ?_) (fun h59 => gw ?_)
  ·refine S.draw ([10], []) mixed (sk (sk (sd (sk (sk (sk sn0)))))) (gw ?_)
   refine D.qY 8 rfl (Qt.index uT cT rfl rfl (by have := zfu hf.1 h59; omega) (Has.ro hS) (by rw [zdV]; have := zfu hf.1 h59; omega)) ?_
   refine D.qY 9 rfl (Qt.load rfl (Ld.slr (vs := zaD (o.ss.getD k zb7)) (Has.ro hS) rT (by rw [zam]; exact ce136) (by rw [zam]; decide) (zf1 (by have := zfu hf.1 h59; omega) rfl))) ?_
   refine D.oN 10 rfl (OpV.mapUpd2 (k := (o.xs.getD k 0)) (a := (o.ss.getD k zb7)) uT Tryz.keyU rfl rfl rfl (sbk ?_))
   refine D.fi (gw ?_)
   refine S.draw ([9], []) mixed (sk (sk (sk (sd (sd (sk sn0)))))) (gw ?_)
   refine D.qY 7 rfl (Qt.index uT cT rfl rfl ow (Has.own hz0) (by rw [zah, List.length_map, List.length_range]; omega)) ?_
   refine D.qY 8 rfl (Qt.as (Qt.load rfl (Ld.hashS (l := (List.range o.xs.length).map (zb8 o)) (Has.own hz0) k rT ce49 (by rw [List.length_map, List.length_range]; omega) rfl)) (by rw [zmj o ow])) ?_
   refine D.oS 9 rfl (OpV.con (Pre := [Blk tb 243 (zar E (hgt n) mb), MapA mb zau hv ms2]) (R := _) J102 rfl (pm3.trans (pc pm3)) (fun w hw => ziH E tb mb (hgt n) ms2 (o.xs.getD k 0) (zb8 o k) hh ow w hw.sat.left (hT.pre hw)) ?_)
   rintro v L' ⟨rfl, rfl⟩
   refine sbk (gw ?_)
   refine D.fi (gw ?_)
   refine ⟨(k + 1, setK E ms2 (o.xs.getD k 0) (zb8 o k) (hgt n)), ?_, ?_, ⟨?_, ag⟩, (by dsimp only; rw [ztx h59]; exact Sub.trans (sk (Sub.trans (sk (Sub.trans (sk sr) (Sub.of_perm pm2))) (Sub.of_perm pm2))) (Sub.of_perm pm2))⟩
   ·exact ⟨by show _ ≤ _; dsimp only; omega, hok2.step hxk⟩
   ·show _ < _; dsimp only; omega
   exact outs
  ·refine S.draw ([9], []) mixed (sk (sk (sk (sd (sd (sk sn0)))))) (gw ?_)
   refine D.qY 7 rfl (Qt.index uT cT rfl rfl ow (Has.own hz0) (by rw [zah, List.length_map, List.length_range]; omega)) ?_
   refine D.qY 8 rfl (Qt.as (Qt.load rfl (Ld.hashS (l := (List.range o.xs.length).map (zb8 o)) (Has.own hz0) k rT ce49 (by rw [List.length_map, List.length_range]; omega) rfl)) (by rw [zmj o ow])) ?_
   refine D.oS 9 rfl (OpV.con (Pre := [Blk tb 243 (zar E (hgt n) mb), MapA mb zau hv ms2]) (R := _) J102 rfl (pm3.trans (pc pm3)) (fun w hw => ziH E tb mb (hgt n) ms2 (o.xs.getD k 0) (zb8 o k) hh ow w hw.sat.left (hT.pre hw)) ?_)
   rintro v L' ⟨rfl, rfl⟩
   refine sbk (gw ?_)
   refine D.fi (gw ?_)
   refine ⟨(k + 1, setK E ms2 (o.xs.getD k 0) (zb8 o k) (hgt n)), ?_, ?_, ⟨?_, ag⟩, (by dsimp only; rw [zty h59]; exact Sub.trans (sk (Sub.trans (sk (Sub.trans (sk sr) (Sub.of_perm pm2))) (Sub.of_perm pm2))) (Sub.of_perm pm2))⟩
   ·exact ⟨by show _ ≤ _; dsimp only; omega, hok2.step hxk⟩
   ·show _ < _; dsimp only; omega
   exact outs
 ·refine TC.exit (TC.seq (gw ?_))
  refine TC.ret (fin1 (Sub.trans (sk (sk (sk (sk (sd (sd sn0)))))) (Sub.trans (sk (Sub.trans (sk (Sub.trans (sk (Sub.trans (sk sr) (Sub.of_perm pm1))) (Sub.of_perm pm1))) (Sub.of_perm pm1))) (Sub.of_perm pm1))) ?_)
  obtain rfl : k = o.xs.length := by omega
  exact ⟨ms2, rfl, rfl, hok2⟩
theorem zmo {w : World} {M : List Nat} {A : Assn} (h : Ro w M A) : Ro w [] A := ⟨h.1, fun b hb => ⟨(h.2 b hb).1, fun k => by cases k⟩⟩
theorem Calls.still {P : Program} {f : FuncId} {args : Array Value} {w : World} {L : List Assn} {u : Value} {φ : Value → List Assn → Prop} (hL : Sat w L) (h : Calls P f args w (Ret w u)) (hφ : φ u L) : Calls P f args w (Post w (fps L) φ) :=
 h.mono fun e w' ⟨h1, h2⟩ => ⟨u, L, h1, (St.start hL).after0 h2, hφ⟩
theorem zp5 (E : Nat → H32) (hEm : ∀ w, Tabs 3 1 w [] → Calls prog 55 #[] w (Ret w (.agg (hcs (zbd E)).toArray))) (hE : ∀ h, E (h + 1) = zbj (h + 1) (E h) (E h)) (hE0 : E 0 = shaH [0]) (cN : Nat) (hcN : cN < 4294967296) (qb n sm tb mb : Nat) (Y : Sm) (ms : Tm) (A : OAd) (c : Nat) (B : OAd) (d : Nat) (o : Order) (hss : o.ss.length ≤ 65536) (hxx : o.xs.length ≤ 65536) (hok : TruOk E n Y ms cN) (w0 : World) (hL : Sat w0 [Blk qb 160 [.int .u64 (n : Int), .map (some sm), .pointer (some ⟨tb, 0, none⟩)], MapA sm encU sv Y, Blk tb 243 (zar E (hgt n) mb), MapA mb zau hv ms]) (hlow : ∀ x ∈ o.xs, x < 18446744073709551616) (hR : Ro w0 (fps [Blk qb 160 [.int .u64 (n : Int), .map (some sm), .pointer (some ⟨tb, 0, none⟩)], MapA sm encU sv Y, Blk tb 243 (zar E (hgt n) mb), MapA mb zau hv ms]) (SlA A (u64s o.xs))) (hS : Ro w0 (fps [Blk qb 160 [.int .u64 (n : Int), .map (some sm), .pointer (some ⟨tb, 0, none⟩)], MapA sm encU sv Y, Blk tb 243 (zar E (hgt n) mb), MapA mb zau hv ms]) (SlA B (o.ss.flatMap zaD))) (hT : Tabs 3 1 w0 (fps [Blk qb 160 [.int .u64 (n : Int), .map (some sm), .pointer (some ⟨tb, 0, none⟩)], MapA sm encU sv Y, Blk tb 243 (zar E (hgt n) mb), MapA mb zau hv ms])) :
  Calls prog 38 #[.pointer (some ⟨qb, 0, none⟩), .agg (zaX A c B d o).toArray] w0 (Post w0 (fps [Blk qb 160 [.int .u64 (n : Int), .map (some sm), .pointer (some ⟨tb, 0, none⟩)], MapA sm encU sv Y, Blk tb 243 (zar E (hgt n) mb), MapA mb zau hv ms]) fun v L => ∃ tb2 mb2 ms2, v = errv 73 (doE o n) ∧ L = [Blk qb 160 [.int .u64 ((doN o n) : Int), .map (some sm), .pointer (some ⟨tb2, 0, none⟩)], MapA sm encU sv (doS o n Y), Blk tb2 243 (zar E (hgt (doN o n)) mb2), MapA mb2 zau hv ms2] ∧ TruOk E (doN o n) (doS o n Y) ms2 (cN + o.xs.length)) := by
 by_cases hf : zce o n
 ·have e1 : doE o n = 0 := by rw [doE, if_pos hf]
  by_cases hk : o.kind = 3
  ·rw [e1, show doN o n = o.blocks by rw [doN, if_pos ⟨hf, hk⟩], show doS o n Y = cutS o.blocks Y by rw [doS, if_pos hf, if_pos hk]]
   exact (znx E hEm hE hE0 cN hcN qb n sm tb mb Y ms A c B d o hss hxx hf hk hok w0 hL hlow hR hS hT).mono fun e w ⟨v, L, h1, h2, tb2, m2, ms2, h3, h4, h5⟩ => ⟨v, L, h1, h2, tb2, m2, ms2, h3, h4, h5.mono (Nat.le_add_right _ _)⟩
  ·rw [e1, show doN o n = n by rw [doN, if_neg (fun h => hk h.2)], show doS o n Y = runS o Y o.xs.length by rw [doS, if_pos hf, if_neg hk]]
   exact (zny E hEm hE0 cN qb n sm tb mb Y ms A c B d o hss hxx hf hk hok w0 hL hlow hR hS hT).mono fun e w ⟨v, L, h1, h2, ms2, h3, h4, h5⟩ => ⟨v, L, h1, h2, tb, mb, ms2, h3, h4, h5⟩
 ·rw [show doN o n = n by rw [doN, if_neg (fun h => hf h.1)], show doS o n Y = Y by rw [doS, if_neg hf]]
  by_cases hr : zbe o
  ·rw [show doE o n = 1 by rw [doE, if_neg hf, if_pos hr]]
   exact Calls.still hL (Calls.ret (znw qb n sm tb A c B d o hss hxx hr hf w0 (Rd.at (C := ⟨prog, 0, w0, fps [Blk qb 160 [.int .u64 (n : Int), .map (some sm), .pointer (some ⟨tb, 0, none⟩)], MapA sm encU sv Y, Blk tb 243 (zar E (hgt n) mb), MapA mb zau hv ms], none⟩) (L := [Blk qb 160 [.int .u64 (n : Int), .map (some sm), .pointer (some ⟨tb, 0, none⟩)], MapA sm encU sv Y, Blk tb 243 (zar E (hgt n) mb), MapA mb zau hv ms]) 0 rfl w0 (St.start hL)) hlow (zmo hR) (zmo hS))) ⟨tb, mb, ms, rfl, rfl, hok.mono (Nat.le_add_right _ _)⟩
  ·rw [show doE o n = 2 by rw [doE, if_neg hf, if_neg hr]]
   exact Calls.still hL (Calls.ret (znv qb A c B d o hss hxx hr w0 hlow (zmo hR) (zmo hS))) ⟨tb, mb, ms, rfl, rfl, hok.mono (Nat.le_add_right _ _)⟩
end Go.Proofs.YtgdjcmehlhebdaaGreatDoor
