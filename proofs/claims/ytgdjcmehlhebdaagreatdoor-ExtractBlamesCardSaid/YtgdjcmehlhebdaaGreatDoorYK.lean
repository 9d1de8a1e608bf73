/- Facts of the table that the turned walks need -/
import Derived.Test.YtgdjcmehlhebdaaGreatDoorYQ
set_option maxHeartbeats 25600000
namespace Go.Proofs.YtgdjcmehlhebdaaGreatDoor
open _root_.Go.Proofs.Tryz
open Go.E
set_option maxRecDepth 4000
theorem J19 : zae prog 19 := ⟨_, func19, by kernel_rfl, rfl⟩
theorem J63 : zae prog 63 := ⟨_, func63, by kernel_rfl, rfl⟩
theorem J64 : zae prog 64 := ⟨_, func64, by kernel_rfl, rfl⟩
theorem J65 : zae prog 65 := ⟨_, func65, by kernel_rfl, rfl⟩
theorem J66 : zae prog 66 := ⟨_, func66, by kernel_rfl, rfl⟩
theorem J104 : zae prog 104 := ⟨_, func104, by kernel_rfl, rfl⟩
theorem J127 : zae prog 127 := ⟨_, func127, by kernel_rfl, rfl⟩
theorem J128 : zae prog 128 := ⟨_, func128, by kernel_rfl, rfl⟩
theorem J129 : zae prog 129 := ⟨_, func129, by kernel_rfl, rfl⟩
theorem J132 : zae prog 132 := ⟨_, func132, by kernel_rfl, rfl⟩
theorem J145 : zae prog 145 := ⟨_, func145, by kernel_rfl, rfl⟩
theorem J146 : zae prog 146 := ⟨_, func146, by kernel_rfl, rfl⟩
theorem J167 : zae prog 167 := ⟨_, func167, by kernel_rfl, rfl⟩
theorem J168 : zae prog 168 := ⟨_, func168, by kernel_rfl, rfl⟩
theorem J169 : zae prog 169 := ⟨_, func169, by kernel_rfl, rfl⟩
theorem J186 : zae prog 186 := ⟨_, func186, by kernel_rfl, rfl⟩
theorem J208 : zae prog 208 := ⟨_, func208, by kernel_rfl, rfl⟩
theorem zpf (f k : Nat) : u64s ((List.range k).map (f + ·)) ++ [.int .u64 ((f + k : Nat) : Int)] = u64s ((List.range (k + 1)).map (f + ·)) := by
 rw [List.range_succ, List.map_append]; simp [u64s]
theorem zs4 (n : Nat) (h : okN n) (w0 : World) :
  Calls prog 74 #[.int .u64 (n : Int)] w0 (Post w0 [] fun v L => v = .tuple #[.int .i64 ((hgt n : Nat) : Int), .bool true] ∧ L = []) := by
 refine co 20 [.tmp 2, .tmp 3] func74 ?_
 obtain ⟨hn1, hn2⟩ := id h
 refine gw ?_
 refine S.r (Qt.dF (Qt.eq (b := 0) rfl rfl) ow) (gw ?_)
 refine S.qg rfl rfl rfl (Qt.dF (Qt.gt (b := 4294967296) rfl rfl) ow) (gw ?_)
 refine TC.loop (γ := Nat) [12, 13, 14, 15, 16, 5, 17, 18, 4] (fun k => [(4, .int .i64 (k : Int)), (5, .int .u64 ((2 ^ k : Nat) : Int))]) (fun _ => _) (fun k => k ≤ 32 ∧ (k = 0 ∨ 2 ^ (k - 1) < n)) (fun k => 32 - k) (0)
  ⟨by omega, .inl rfl⟩ ⟨Out.refl _ _, ag⟩ sr ?_
 rintro k u ⟨hk, hk1⟩
 refine gw ?_
 refine S.dec rfl rfl (Qt.lt rfl rfl) (fun h14 => gw ?_) (fun h14 => gw ?_)
 ·have hk2 : k < 32 := by
   rcases Nat.lt_or_ge k 32 with h1 | h1
   ·exact h1
   ·have : 2 ^ 32 ≤ 2 ^ k := Nat.pow_le_pow_right (by decide) h1
    omega
  refine S.r (Qt.mul (b := 2) rfl rfl km) (gw ?_)
  refine ⟨k + 1, ?_, ?_, ⟨?_, ag⟩, sr⟩
  ·exact ⟨by omega, .inr (by rw [Nat.add_sub_cancel]; exact h14)⟩
  ·show _ < _; dsimp only; omega
  exact outs
 ·refine TC.exit (TC.seq (gw ?_))
  refine TC.ret (fR ?_)
  have e := zqC h (Nat.le_of_not_lt h14) hk1
  rw [← e]
  exact ⟨rfl, rfl⟩
theorem zgU (a b : Nat) (ha : okN a) (hb : okN b) (w0 : World) : Calls prog 169 #[.int .u64 (a : Int), .int .u64 (b : Int)] w0 (Ret w0 (.tuple #[.int .i64 ((hgt a : Nat) : Int), .int .i64 ((hgt b : Nat) : Int), .nilIface])) := by
 refine Calls.ret ?_
 refine co 26 [.tmp 4, .tmp 5, .tmp 6] func169 ?_
 refine gw ?_
 refine S.c0 J39 (fun w hw => zfX a ha w) (gw ?_)
 refine S.c0 J39 (fun w hw => zfX b hb w) (gw ?_)
 refine TC.ret (fR ?_)
 exact ⟨rfl, rfl⟩
theorem ztn (a b : Nat) (ha : ¬ okN a) (w0 : World) : Calls prog 169 #[.int .u64 (a : Int), .int .u64 (b : Int)] w0 (Ret w0 (.tuple #[.int .i64 0, .int .i64 0, .iface 73 (.int .i64 1)])) := by
 refine Calls.ret ?_
 refine co 26 [.tmp 4, .tmp 5, .tmp 6] func169 ?_
 refine gw ?_
 refine S.c0 J39 (fun w hw => zlQ a ha w) (gw ?_)
 refine TC.ret (fR ?_)
 exact ⟨rfl, rfl⟩
theorem zrW (a b : Nat) (ha : okN a) (hb : ¬ okN b) (w0 : World) : Calls prog 169 #[.int .u64 (a : Int), .int .u64 (b : Int)] w0 (Ret w0 (.tuple #[.int .i64 ((hgt a : Nat) : Int), .int .i64 0, .iface 73 (.int .i64 1)])) := by
 refine Calls.ret ?_
 refine co 26 [.tmp 4, .tmp 5, .tmp 6] func169 ?_
 refine gw ?_
 refine S.c0 J39 (fun w hw => zfX a ha w) (gw ?_)
 refine S.c0 J39 (fun w hw => zlQ b hb w) (gw ?_)
 refine TC.ret (fR ?_)
 exact ⟨rfl, rfl⟩
theorem zng (E : Nat → H32) (hEm : ∀ w, Tabs 3 1 w [] → Calls prog 55 #[] w (Ret w (.agg (hcs (zbd E)).toArray))) (root : H32) (a b : Nat) (h : okN a ∧ okN b ∧ a ≤ b) (w0 : World) (hT : Tabs 3 1 w0 []) :
  Calls prog 108 #[hv root, .int .u64 (a : Int), .int .u64 (b : Int)] w0 (Post w0 [] fun v L => v = .tuple #[hv (zfP E root (hgt a) (hgt b - hgt a)), .nilIface] ∧ L = []) := by
 refine co 54 [.cell 6 49, .tmp 7] func108 ?_
 have hlo := zeS h.1 h.2.1 h.2.2
 have hhi := zb0 h.2.1
 refine gw ?_
 intro b3
 refine gw ?_
 intro b6
 refine gw ?_
 refine S.c0 J169 (fun w hw => zgU a b h.1 h.2.1 w) (gw ?_)
 refine S.qg rfl rfl rfl (Qt.dF (Qt.lt rfl rfl) ow) (gw ?_)
 refine S.c0 J55 (fun w hw => hEm w (hT.at hw)) (gw ?_)
 intro b11
 refine S.opN rfl (OpV.storeV0 (v := .agg (hcs (zbd E)).toArray) rfl rfl (by rw [zav, zah, zaQ]; exact ce140) (zfg _) (by rw [zav, zah, zaQ, List.length_replicate]) ?_)
 refine gw ?_
 refine TC.loop (γ := Nat) [33, 34, 35, 39, 40, 41, 42, 43, 44, 45, 38, 46, 47, 13, 14, 48, 49, 50, 51, 7, 52, 36, 37, 12] (fun k => [(12, .int .i64 ((hgt a + k : Nat) : Int))]) (fun k => [Blk b11 140 (hcs (zbd E)), Blk b6 49 (List.replicate 32 (.int .u8 0)), Blk b3 49 (hvl (zfP E root (hgt a) k))]) (fun k => k ≤ hgt b - hgt a) (fun k => hgt b - hgt a - k) (0)
  (Nat.zero_le _) ⟨Out.refl _ _, ag⟩ sr ?_
 rintro k u hk
 refine gw ?_
 refine S.dec rfl rfl (Qt.lt rfl rfl) (fun h35 => gw ?_) (fun h35 => gw ?_)
 ·refine dw ([11], [10]) (gw ?_)
  refine D.qY 4 rfl (Qt.indexB uT cT rfl rfl ow) ?_
  refine D.qY 5 rfl (Qt.as (Qt.load rfl (Ld.hashB hz0 (hgt a + k) rT ce49 (by rw [zaQ]; omega) ow)) (by rw [zdJ E ow])) ?_
  refine D.c0 6 rfl J117 (fun w hw => zhC (hgt a + k + 1) ow ow (zfP E root (hgt a) k) (E (hgt a + k)) w (hT.at hw)) (gw ?_)
  refine D.nN 10 rfl (OpV.alloc zT (fun b13 => (sbk ?_)))
  refine D.oN 11 rfl (OpV.storeV0 (v := hv (zfP E root (hgt a) (k + 1))) rfl rfl (zab ce49) (zai _) (zaf _) (sbk ?_))
  refine gw ?_
  refine D.fi (gw ?_)
  refine S.opN rfl (OpV.storeV3 (v := hv (zfP E root (hgt a) (k + 1))) rfl rfl (zab ce49) (zai _) (by rw [zaf, zag]) ?_)
  refine gw ?_
  refine ⟨k + 1, ?_, ?_, ⟨?_, ag⟩, sd sr⟩
  ·show _ ≤ _; omega
  ·show _ < _; dsimp only; omega
  exact outs
 ·refine TC.exit (TC.seq (gw ?_))
  refine S.opN rfl (OpV.storeV1 (v := hv (zfP E root (hgt a) k)) rfl rfl (zab ce49) (zai _) (zaf _) ?_)
  refine gw ?_
  refine TC.ret ?_
  refine finQ.ret (RVs.cell rfl (Ld.all hz1 rT (zab ce49)) rv) sn ?_
  have e : k = hgt b - hgt a := by omega
  rw [← e]
  exact ⟨rfl, rfl⟩
theorem znh (root : H32) (a b : Nat) (h : ¬ (okN a ∧ okN b ∧ a ≤ b)) (w0 : World) :
  Calls prog 108 #[hv root, .int .u64 (a : Int), .int .u64 (b : Int)] w0 (Post w0 [] fun v L => v = .tuple #[hv zac, .iface 73 (.int .i64 1)] ∧ L = []) := by
 refine co 54 [.cell 6 49, .tmp 7] func108 ?_
 refine gw ?_
 intro b3
 refine gw ?_
 intro b6
 refine S.as ?_
 refine S.nil (TC.seq (TC.region (S.mv ?_)))
 refine S.mv ?_
 rcases zhG h with ha | ⟨ha, hb⟩ | ⟨ha, hb, hc⟩
 ·refine S.c0 J169 (fun w hw => ztn a b ha w) (gw ?_)
  refine S.r (Qt.build (v := hv zac) rfl (fun _ => by kernel_rfl)) (gw ?_)
  refine S.opN rfl (OpV.storeV0 (v := hv (zac)) rfl rfl (zab ce49) (zai _) (zaf _) ?_)
  refine gw ?_
  refine TC.ret ?_
  refine finQ.ret (RVs.cell rfl (Ld.all hz0 rT (zab ce49)) rv) sn ?_
  exact ⟨rfl, rfl⟩
 ·refine S.c0 J169 (fun w hw => zrW a b ha hb w) (gw ?_)
  refine S.r (Qt.build (v := hv zac) rfl (fun _ => by kernel_rfl)) (gw ?_)
  refine S.opN rfl (OpV.storeV0 (v := hv (zac)) rfl rfl (zab ce49) (zai _) (zaf _) ?_)
  refine gw ?_
  refine TC.ret ?_
  refine finQ.ret (RVs.cell rfl (Ld.all hz0 rT (zab ce49)) rv) sn ?_
  exact ⟨rfl, rfl⟩
 ·refine S.c0 J169 (fun w hw => zgU a b ha hb w) (gw ?_)
  refine S.qg rfl rfl rfl (Qt.dT (Qt.lt rfl rfl) ow) (gw ?_)
  refine S.r (Qt.build (v := hv zac) rfl (fun _ => by kernel_rfl)) (gw ?_)
  refine S.opN rfl (OpV.storeV0 (v := hv (zac)) rfl rfl (zab ce49) (zai _) (zaf _) ?_)
  refine gw ?_
  refine TC.ret ?_
  refine finQ.ret (RVs.cell rfl (Ld.all hz0 rT (zab ce49)) rv) sn ?_
  exact ⟨rfl, rfl⟩
theorem zto (E : Nat → H32) (hEm : ∀ w, Tabs 3 1 w [] → Calls prog 55 #[] w (Ret w (.agg (hcs (zbd E)).toArray))) (root : H32) (a b : Nat) (w0 : World) (hT : Tabs 3 1 w0 []) :
  Calls prog 108 #[hv root, .int .u64 (a : Int), .int .u64 (b : Int)] w0 (Ret w0 (.tuple #[hv (zhj E root a b), errv 73 (zmF a b)])) := by
 by_cases h : okN a ∧ okN b ∧ a ≤ b
 ·obtain ⟨e1, e2⟩ := zkB (E := E) (root := root) h
  rw [e1, e2]
  exact Calls.ret (zng E hEm root a b h w0 hT)
 ·obtain ⟨e1, e2⟩ := zqD (E := E) (root := root) h
  rw [e1, e2]
  exact Calls.ret (znh root a b h w0)
theorem zmd (E : Nat → H32) (tb mb height : Nat) (ms : Tm) (l p : Nat) (hl : l ≤ 32) (h : H32) (w0 : World) (hL : Sat w0 [Blk tb 243 (zar E height mb), MapA mb zau hv (ms)]) :
  Calls prog 167 #[.pointer (some ⟨tb, 0, none⟩), zau (l, p), hv h] w0 (Post w0 (fps [Blk tb 243 (zar E height mb), MapA mb zau hv (ms)]) fun v L => v = .tuple #[] ∧ L = [Blk tb 243 (zar E height mb), MapA mb zau hv (putT E ms (l, p) h)]) := by
 refine cof (L := [Blk tb 243 (zar E height mb), MapA mb zau hv (ms)]) 26 [] func167 hL ?_
 refine gw ?_
 intro b4
 refine gw ?_
 intro b5
 refine gw ?_
 refine dw ([], []) (gw ?_)
 refine D.qY 6 rfl (Qt.indexB uT cT rfl rfl ow) ?_
 refine D.qY 7 rfl (Qt.load rfl (Ld.treeE hz2 l rT ce49 ow rfl)) ?_
 refine D.decX (k := 8) rfl (by kernel_rfl) (by kernel_rfl) (by kernel_rfl) rfl rfl (Qt.eqH (a := h) (b := E l) guard49 uT uT cT rfl rfl) (fun h14 => ?_) (fun h14 => ?_)
 ·refine D.fi (gw ?_)
  refine dw ([5], []) (gw ?_)
  refine D.qY 4 rfl (Qt.load rfl (Ld.all (vs := vl (zau (l, p))) hz1 rT ce249)) ?_
  refine D.oN 5 rfl (OpV.mapDel3 (k := (l, p)) rfl uT Tryz.keyAt rfl rfl (sbk ?_))
  refine D.fi ?_
  refine TC.ret ?_
  refine finQ.ret RVs.nil (sd (sd sr)) ?_
  exact ⟨rfl, by rw [zsf (a := (l, p)) h14]⟩
 ·refine D.fi (gw ?_)
  refine dw ([6], []) (gw ?_)
  refine D.qY 4 rfl (Qt.load rfl (Ld.all (vs := vl (zau (l, p))) hz1 rT ce249)) (gw ?_)
  refine D.oN 6 rfl (OpV.mapUpd3 (k := (l, p)) (a := h) uT Tryz.keyAt rfl rfl rfl (sbk ?_))
  refine D.fi ?_
  refine finQ.normal RVs.nil (sd (sd sr)) ?_
  exact ⟨rfl, by rw [zsg (a := (l, p)) h14]⟩
theorem ziH (E : Nat → H32) (tb mb height : Nat) (ms : Tm) (i : Nat) (h : H32) (hh : height ≤ 32) (hi : i < 2 ^ height) (w0 : World) (hL : Sat w0 [Blk tb 243 (zar E height mb), MapA mb zau hv (ms)]) (hT : Tabs 3 1 w0 (fps [Blk tb 243 (zar E height mb), MapA mb zau hv (ms)])) :
  Calls prog 102 #[.pointer (some ⟨tb, 0, none⟩), .int .u64 (i : Int), hv h] w0 (Post w0 (fps [Blk tb 243 (zar E height mb), MapA mb zau hv (ms)]) fun v L => v = .nilIface ∧ L = [Blk tb 243 (zar E height mb), MapA mb zau hv (setK E ms i h height)]) := by
 refine cof (L := [Blk tb 243 (zar E height mb), MapA mb zau hv (ms)]) 65 [.tmp 6] func102 hL ?_
 have hi32 := zsh hh hi
 refine gw ?_
 intro b5
 refine gw ?_
 refine S.r (Qt.build2 (v := zau (0, i)) (a := .int .i64 ((0 : Nat) : Int)) (b := .int .u64 ((i : Nat) : Int)) rfl rfl (buildAt (0) (i))) ?_
 refine S.c0 J166 (fun w hw => zsi E tb mb height 0 i hh (ok0 hi) w (Rd.at 1 rfl w hw)) (gw ?_)
 refine S.r (Qt.build2 (v := zau (0, i)) (a := .int .i64 ((0 : Nat) : Int)) (b := .int .u64 ((i : Nat) : Int)) rfl rfl (buildAt (0) (i))) (gw ?_)
 refine S.o (OpV.con (Pre := [Blk tb 243 (zar E height mb), MapA mb zau hv (ms)]) (R := _) J167 rfl (pm1.trans (pc pm1)) (fun w hw => zmd E tb mb height ms 0 i (by decide) h w hw.sat.left) ?_)
 rintro v L' ⟨rfl, rfl⟩
 refine gw ?_
 refine TC.loop (γ := Nat) [26, 27, 28, 29, 30, 31, 34, 35, 1, 37, 38, 39, 40, 41, 42, 43, 44, 45, 46, 47, 48, 49, 50, 51, 52, 53, 36, 54, 55, 8, 9, 56, 57, 58, 6, 59, 60, 61, 62, 63, 64, 32, 33, 7] (fun j => [(7, .int .i64 ((j + 1 : Nat) : Int)), (1, .int .u64 ((i / 2 ^ j : Nat) : Int))]) (fun j => [Blk tb 243 (zar E height mb), MapA mb zau hv (setK E ms i h j), Blk b5 49 (hvl h)]) (fun j => j ≤ height) (fun j => height - j) (0)
  (Nat.zero_le _) ⟨Out.refl _ _, (List.forall_mem_cons.2 ⟨rfl, (List.forall_mem_cons.2 ⟨(by show Value.int .u64 (i : Int) = Value.int .u64 ((i / 2 ^ 0 : Nat) : Int); rw [Nat.pow_zero, Nat.div_one]), (fun _ h => nomatch h)⟩)⟩)⟩ sr ?_
 rintro j u hj
 have hd1 := Nat.div_le_self i (2 ^ j)
 have hd2 := Nat.div_le_self i (2 ^ (j + 1))
 refine gw ?_
 refine S.dec rfl rfl (Qt.le rfl rfl) (fun h31 => gw ?_) (fun h31 => gw ?_)
 ·refine S.r (Qt.as (Qt.shrN (s := 1) rfl rfl km) (by rw [zfW])) (gw ?_)
  refine S.r (Qt.sub (b := 1) rfl rfl ow km) (gw ?_)
  refine S.r (Qt.mul (a := 2) rfl rfl km) ?_
  refine S.r (Qt.build2 (v := zau (j, 2 * (i / 2 ^ (j + 1)))) (a := .int .i64 ((j : Nat) : Int)) (b := .int .u64 ((2 * (i / 2 ^ (j + 1)) : Nat) : Int)) rfl rfl (buildAt (j) (2 * (i / 2 ^ (j + 1))))) ?_
  refine S.c0 J135 (fun w hw => zmJ E tb mb height (setK E ms i h j) j (2 * (i / 2 ^ (j + 1))) ow w (Rd.at 0 rfl w hw) (Rd.at 1 rfl w hw)) (gw ?_)
  refine S.r (Qt.sub (b := 1) rfl rfl ow km) (gw ?_)
  refine S.r (Qt.mul (a := 2) rfl rfl km) (gw ?_)
  refine S.r (Qt.build2 (v := zau (j, 2 * (i / 2 ^ (j + 1)) + 1)) (a := .int .i64 ((j : Nat) : Int)) (b := .int .u64 ((2 * (i / 2 ^ (j + 1)) + 1 : Nat) : Int)) rfl rfl (buildAt (j) (2 * (i / 2 ^ (j + 1)) + 1))) ?_
  refine S.c0 J135 (fun w hw => zmJ E tb mb height (setK E ms i h j) j (2 * (i / 2 ^ (j + 1)) + 1) ow w (Rd.at 0 rfl w hw) (Rd.at 1 rfl w hw)) ?_
  refine S.c0 J117 (fun w hw => zhC (j + 1) ow ow _ _ w (hT.at hw)) (gw ?_)
  intro b8
  refine S.opN rfl (OpV.storeV0 (v := hv (_)) rfl rfl (zab ce49) (zai _) (zaf _) ?_)
  refine gw ?_
  refine S.r (Qt.build2 (v := zau (j + 1, i / 2 ^ (j + 1))) (a := .int .i64 ((j + 1 : Nat) : Int)) (b := .int .u64 ((i / 2 ^ (j + 1) : Nat) : Int)) rfl rfl (buildAt (j + 1) (i / 2 ^ (j + 1)))) (gw ?_)
  refine S.o (OpV.con (Pre := [Blk tb 243 (zar E height mb), MapA mb zau hv (setK E ms i h j)]) (R := _) J167 rfl (pm1.trans (pc pm1)) (fun w hw => zmd E tb mb height (setK E ms i h j) (j + 1) (i / 2 ^ (j + 1)) ow _ w hw.sat.left) ?_)
  rintro v L' ⟨rfl, rfl⟩
  refine gw ?_
  refine ⟨j + 1, ?_, ?_, ⟨?_, ag⟩, sk (sk (sd sr))⟩
  ·show _ ≤ _; omega
  ·show _ < _; dsimp only; omega
  exact outs
 ·refine TC.exit (TC.seq (gw ?_))
  refine TC.ret (fin1 (sk (sk sn)) ?_)
  obtain rfl : j = height := by omega
  exact ⟨rfl, rfl⟩
theorem ztp (E : Nat → H32) (tb mb height : Nat) (ms : Tm) (hh : height ≤ 32) (w0 : World) (hB : Ro w0 [] (Blk tb 243 (zar E height mb))) (hM : Ro w0 [] (MapA mb zau hv (ms))) : Calls prog 72 #[.pointer (some ⟨tb, 0, none⟩)] w0 (Ret w0 (hv (getT E ms (height, 0)))) := by
 refine Calls.ret ?_
 refine co 13 [.cell 2 49] func72 ?_
 refine gw ?_
 intro b2
 refine gw ?_
 refine S.r (Qt.build2 (v := zau (height, 0)) (a := .int .i64 ((height : Nat) : Int)) (b := .int .u64 ((0 : Nat) : Int)) rfl rfl (buildAt (height) (0))) ?_
 refine S.c0 J135 (fun w hw => zmJ E tb mb height ms height 0 hh w (Rd.ro hB w hw) (Rd.ro hM w hw)) ?_
 refine S.opN rfl (OpV.storeV0 (v := hv (_)) rfl rfl (zab ce49) (zai _) (zaf _) ?_)
 refine gw ?_
 refine TC.ret ?_
 refine finQ.ret (RVs.cell rfl (Ld.all hz0 rT (zab ce49)) RVs.nil) sn ?_
 exact ⟨rfl, rfl⟩
theorem zgV (h f n : Nat) (hh : h ≤ 32) (hf : f < 18446744073709551616) (h1 : 1 ≤ n) (h2 : n ≤ 256) (w0 : World) : Calls prog 104 #[.int .i64 (h : Int), .int .u64 (f : Int), .int .i64 (n : Int)] w0 (Ret w0 (.bool (decide (f + n ≤ 2 ^ h)))) := by
 refine Calls.ret ?_
 refine co 35 [.tmp 6] func104 ?_
 have hpw : 2 ^ h ≤ 4294967296 := (show 2 ^ h ≤ 2 ^ 32 from Nat.pow_le_pow_right (by decide) hh)
 refine gw ?_
 refine S.r (Qt.dF (Qt.lt (b := 0) rfl rfl) ow) (gw ?_)
 refine S.qg rfl rfl rfl (Qt.dF (Qt.gt (b := 32) rfl rfl) ow) (gw ?_)
 refine S.qg rfl rfl rfl (Qt.dF (Qt.lt (b := 1) rfl rfl) ow) (gw ?_)
 refine S.qg rfl rfl rfl (Qt.dF (Qt.gt (b := 256) rfl rfl) ow) (gw ?_)
 refine S.r (Qt.as (Qt.shlN (a := 1) rfl rfl km) (by rw [Nat.one_mul])) (gw ?_)
 refine S.dec rfl rfl (Qt.lt rfl rfl) (fun h26 => gw ?_) (fun h26 => gw ?_)
 ·refine S.qg rfl rfl rfl (Qt.convert uT uT rfl km) (gw ?_)
  refine S.qg rfl rfl rfl (Qt.sub rfl rfl ow km) ?_
  refine S.decg rfl rfl rfl (Qt.le rfl rfl) (fun h33 => gw ?_) (fun h33 => gw ?_)
  ·refine TC.ret (fR ?_)
   exact ⟨(congrArg Value.bool (decide_eq_true ow)).symm, rfl⟩
  ·refine TC.ret (fR ?_)
   exact ⟨(congrArg Value.bool (decide_eq_false ow)).symm, rfl⟩
 ·refine TC.ret (fR ?_)
  exact ⟨(congrArg Value.bool (decide_eq_false ow)).symm, rfl⟩
theorem zme (h f : Nat) (m : Int) (hm : m < 1 ∨ 256 < m) (hh : h ≤ 32) (w0 : World) : Calls prog 104 #[.int .i64 (h : Int), .int .u64 (f : Int), .int .i64 m] w0 (Ret w0 (.bool false)) := by
 refine Calls.ret ?_
 refine co 35 [.tmp 6] func104 ?_
 refine gw ?_
 refine S.r (Qt.dF (Qt.lt (b := 0) rfl rfl) ow) (gw ?_)
 refine S.qg rfl rfl rfl (Qt.dF (Qt.gt (b := 32) rfl rfl) ow) (gw ?_)
 refine S.decg rfl rfl rfl (Qt.lti rfl rfl) (fun h16 => gw ?_) (fun h16 => gw ?_)
 ·refine TC.ret (fR ?_)
  exact ⟨rfl, rfl⟩
 ·refine S.qg rfl rfl rfl (Qt.dT (Qt.gti rfl rfl) ow) (gw ?_)
  refine TC.ret (fR ?_)
  exact ⟨rfl, rfl⟩
theorem zsM (h f n : Nat) (hh : h ≤ 32) (hf : f < 18446744073709551616) (h1 : 1 ≤ n) (h2 : n ≤ 256) (w0 : World) :
  Calls prog 147 #[.int .i64 (h : Int), .int .u64 (f : Int), .int .i64 (n : Int)] w0 (Post w0 [] fun v L => v = .bool (decide (f + n ≤ 2 ^ h)) ∧ L = []) := by
 refine co 47 [.tmp 6] func147 ?_
 have hpw : 2 ^ h ≤ 4294967296 := (show 2 ^ h ≤ 2 ^ 32 from Nat.pow_le_pow_right (by decide) hh)
 refine gw ?_
 refine S.r (Qt.dF (Qt.lt (b := 0) rfl rfl) ow) (gw ?_)
 refine S.qg rfl rfl rfl (Qt.dF (Qt.gt (b := 32) rfl rfl) ow) (gw ?_)
 refine S.qg rfl rfl rfl (Qt.dF (Qt.lt (b := 1) rfl rfl) ow) (gw ?_)
 refine S.qg rfl rfl rfl (Qt.dF (Qt.gt (b := 256) rfl rfl) ow) (gw ?_)
 refine TC.loop (γ := Nat) [24, 25, 26, 29, 30, 7, 27, 28, 8] (fun k => [(8, .int .i64 (k : Int)), (7, .int .u64 ((2 ^ k : Nat) : Int))]) (fun _ => _) (fun k => k ≤ h) (fun k => h - k) (0)
  (Nat.zero_le _) ⟨Out.refl _ _, ag⟩ sr ?_
 rintro k u hk
 refine gw ?_
 refine S.dec rfl rfl (Qt.lt rfl rfl) (fun h26 => ?_) (fun h26 => ?_)
 ·have hm : 2 ^ k < 4294967296 := Nat.lt_of_lt_of_le (Nat.pow_lt_pow_right (by decide) (show k < 32 by omega)) (by decide)
  refine gw ?_
  refine S.r (Qt.mul (b := 2) rfl rfl km) (gw ?_)
  refine ⟨k + 1, ?_, ?_, ⟨?_, (List.forall_mem_cons.2 ⟨rfl, (List.forall_mem_cons.2 ⟨(by show Value.int .u64 ((2 ^ k * 2 : Nat) : Int) = Value.int .u64 ((2 ^ (k + 1) : Nat) : Int); rw [Nat.pow_succ]), (fun _ h => nomatch h)⟩)⟩)⟩, sr⟩
  ·show _ ≤ _; omega
  ·show _ < _; dsimp only; omega
  exact outs
 ·refine gw ?_
  refine TC.exit (TC.seq (TC.seq (TC.region (S.as ?_))))
  refine S.nil (TC.block ?_)
  obtain rfl : k = h := by omega
  refine TC.loop (γ := Nat) [31, 32, 33, 36, 37, 38, 39, 40, 41, 42, 43, 44, 45, 46, 6, 34, 35, 9] (fun j => [(9, .int .i64 (j : Int))]) (fun _ => _) (fun j => j ≤ n ∧ (j = 0 ∨ f + j ≤ 2 ^ k)) (fun j => n - j) (0)
   ⟨Nat.zero_le _, .inl rfl⟩ ⟨Out.refl _ _, ag⟩ sr ?_
  rintro j u ⟨hj, hj2⟩
  refine gw ?_
  refine S.dec rfl rfl (Qt.lt rfl rfl) (fun h33 => gw ?_) (fun h33 => gw ?_)
  ·refine S.dec rfl rfl (Qt.ge rfl rfl) (fun h38 => gw ?_) (fun h38 => gw ?_)
   ·refine TC.ret (fR ?_)
    exact ⟨(congrArg Value.bool (decide_eq_false ow)).symm, rfl⟩
   ·refine S.qg rfl rfl rfl (Qt.convert uT uT rfl km) (gw ?_)
    refine S.qg rfl rfl rfl (Qt.sub rfl rfl ow km) ?_
    refine S.decg rfl rfl rfl (Qt.ge rfl rfl) (fun h45 => gw ?_) (fun h45 => gw ?_)
    ·refine TC.ret (fR ?_)
     exact ⟨(congrArg Value.bool (decide_eq_false ow)).symm, rfl⟩
    ·refine ⟨j + 1, ?_, ?_, ⟨?_, ag⟩, sr⟩
     ·exact ⟨by omega, by omega⟩
     ·show _ < _; dsimp only; omega
     exact outs
  ·refine TC.exit (TC.seq (gw ?_))
   refine TC.ret (fR ?_)
   exact ⟨(congrArg Value.bool (decide_eq_true ow)).symm, rfl⟩
theorem zfH (f n : Nat) (h1 : 1 ≤ n) (h2 : n ≤ 256) (hf : f + n ≤ 2 ^ 32) (w0 : World) :
  Calls prog 40 #[.int .u64 (f : Int), .int .i64 (n : Int)] w0 (Post w0 [] fun v L => ∃ O d, v = .slice O n d ∧ L = [OwnA 40 1 O n d (u64s ((List.range n).map (f + ·)))]) := by
 refine co 24 [.tmp 4] func40 ?_
 refine TC.ownNil 40 1 ?_
 have hf32 : f + n ≤ 4294967296 := hf
 refine gw ?_
 refine S.c0 J104 (fun w hw => (by have h := zgV 32 f n (by decide) ow h1 h2 w; rw [decide_eq_true hf] at h; exact h : Calls prog 104 #[.int .i64 32, .int .u64 (f : Int), .int .i64 (n : Int)] w (Ret w (.bool true)))) (gw ?_)
 refine S.r (Qt.convert uT uT rfl km) (gw ?_)
 refine TC.loop (γ := Nat × OAd × Nat) [14, 15, 6, 16, 17, 18, 19, 20, 21, 5, 22, 13] (fun g => [(13, .int .u64 ((g.1 : Nat) : Int)), (5, .slice g.2.1 g.1 g.2.2)]) (fun g => [OwnA 40 1 g.2.1 g.1 g.2.2 (u64s ((List.range g.1).map (f + ·)))]) (fun g => g.1 ≤ n) (fun g => n - g.1) ((0, none, 0))
  (Nat.zero_le _) ⟨Out.refl _ _, ag⟩ sr ?_
 rintro ⟨k, O, d⟩ u hk
 dsimp only at hk
 refine gw ?_
 refine S.dec rfl rfl (Qt.lt rfl rfl) (fun h14 => gw ?_) (fun h14 => gw ?_)
 ·refine S.r (Qt.add rfl rfl km) ?_
  refine S.o (OpV.slice1 (bytes := 8) (v := .int .u64 ((f + k : Nat) : Int)) uT elem40 (by decide) rfl rfl (fun g20 => ?_))
  refine S.o (OpV.app1 (bytes := 8) (news := [.int .u64 ((f + k : Nat) : Int)]) uT elem40 rfl rfl (Has.blk hz0) rfl (by intro u hu; rw [List.mem_singleton.1 hu]; rfl) (by simp only [maxLen]; omega) ow (fun O' d' => ?_))
  refine gw ?_
  refine ⟨(k + 1, O', d'), ?_, ?_, ⟨?_, ag⟩, (by dsimp only; rw [← zpf]; exact sd sr)⟩
  ·show _ ≤ _; dsimp only; omega
  ·show _ < _; dsimp only; omega
  exact outs
 ·refine TC.exit (TC.seq (gw ?_))
  refine TC.ret (fin1 sr ?_)
  obtain rfl : k = n := by omega
  exact ⟨O, d, rfl, rfl⟩
theorem zhZ (J : Sd → Sd → List Assn → Prop) (h f n : Nat) (hh : h ≤ 32) (hf : f + n ≤ 2 ^ h) (h1 : 1 ≤ n) (h2 : n ≤ 256) (fl fr : FuncId) (cl cr : Array Value) (hel : zae prog fl) (her : zae prog fr) (L0 : List Assn) (w0 : World) (h0 : Sat w0 L0) (hJ0 : J [] [] L0)
  (hleft : ∀ (k : Nat) (rs : Sd) (L : List Assn) (w : World), k < h → f / 2 ^ k % 2 = 1 → J (zaq f k) rs L → St w0 (fps L0) L w → Calls prog fl ((([.int .i64 ((k : Nat) : Int), .int .u64 ((f / 2 ^ k - 1 : Nat) : Int)] : List Value) ++ cl.toList).toArray) w (Post w (fps L) fun v L' => J (zaq f (k + 1)) rs L'))
  (hright : ∀ (k : Nat) (ls : Sd) (L : List Assn) (w : World), k < h → (f + n - 1) / 2 ^ k % 2 = 0 → J ls (zan (f + n - 1) k) L → St w0 (fps L0) L w → Calls prog fr ((([.int .i64 ((k : Nat) : Int), .int .u64 (((f + n - 1) / 2 ^ k + 1 : Nat) : Int)] : List Value) ++ cr.toList).toArray) w (Post w (fps L) fun v L' => J ls (zan (f + n - 1) (k + 1)) L')) :
  Calls prog 127 #[.int .i64 (h : Int), .int .u64 (f : Int), .int .i64 (n : Int), .func (.func fl) #[] cl, .func (.func fr) #[] cr] w0 (Post w0 (fps L0) fun v L => J (zaq f h) (zan (f + n - 1) h) L) := by
 refine cof (L := L0) 44 [] func127 h0 ?_
 have hpw : 2 ^ h ≤ 4294967296 := (show 2 ^ h ≤ 2 ^ 32 from Nat.pow_le_pow_right (by decide) hh)
 refine gw ?_
 refine S.r (Qt.convert uT uT rfl km) ?_
 refine S.r (Qt.add rfl rfl km) ?_
 refine S.r (Qt.sub (b := 1) rfl rfl ow km) (gw ?_)
 refine TC.loop (γ := Nat × List Assn) [21, 22, 12, 23, 24, 25, 26, 27, 28, 29, 30, 31, 32, 33, 34, 35, 36, 37, 38, 39, 40, 41, 42, 10, 11, 43, 20] (fun g => [(20, .int .i64 ((g.1 : Nat) : Int)), (10, .int .u64 ((f / 2 ^ g.1 : Nat) : Int)), (11, .int .u64 (((f + n - 1) / 2 ^ g.1 : Nat) : Int))]) (fun g => g.2) (fun g => g.1 ≤ h ∧ J (zaq f g.1) (zan (f + n - 1) g.1) g.2) (fun g => h - g.1) ((0, L0))
  ⟨Nat.zero_le _, hJ0⟩ ⟨Out.refl _ _, (List.forall_mem_cons.2 ⟨rfl, (List.forall_mem_cons.2 ⟨(by show Value.int .u64 (f : Int) = Value.int .u64 ((f / 2 ^ 0 : Nat) : Int); rw [Nat.pow_zero, Nat.div_one]), (List.forall_mem_cons.2 ⟨(by show Value.int .u64 (((f + n - 1) : Nat) : Int) = Value.int .u64 (((f + n - 1) / 2 ^ 0 : Nat) : Int); rw [Nat.pow_zero, Nat.div_one]), (fun _ h => nomatch h)⟩)⟩)⟩)⟩ sr ?_
 rintro ⟨k, Lk⟩ u ⟨hk, hJ⟩
 dsimp only at hk hJ
 refine gw ?_
 refine S.dec rfl rfl (Qt.lt rfl rfl) (fun h21 => gw ?_) (fun h21 => gw ?_)
 ·refine S.r (Qt.rem (b := 2) rfl rfl ow) ?_
  refine S.dec rfl rfl (Qt.eq (b := 1) rfl rfl) (fun h25 => gw ?_) (fun h25 => gw ?_)
  ·refine S.r (Qt.sub (b := 1) rfl rfl (by have h25b : f / 2 ^ k % 2 = 1 := h25; generalize f / 2 ^ k = m at h25b ⊢; omega) (by have := Nat.div_le_self f (2 ^ k); simp only [kmax]; omega)) ?_
   refine S.o (OpV.con (Pre := Lk) (R := []) hel rfl ((by show List.Perm Lk (Lk ++ []); rw [List.append_nil])) (fun w hw => hleft k _ Lk w h21 h25 hJ (by have h := hw; rw [List.append_nil] at h; exact h)) ?_)
   rintro v L1 hJ1
   rw [List.append_nil]
   refine gw ?_
   refine S.r (Qt.rem (b := 2) rfl rfl ow) ?_
   refine S.dec rfl rfl (Qt.eq (b := 0) rfl rfl) (fun h33 => gw ?_) (fun h33 => gw ?_)
   ·refine S.r (Qt.add (b := 1) rfl rfl (by have := Nat.div_le_self (f + n - 1) (2 ^ k); simp only [kmax]; omega)) ?_
    refine S.o (OpV.con (Pre := L1) (R := []) her rfl ((by show List.Perm L1 (L1 ++ []); rw [List.append_nil])) (fun w hw => hright k _ _ w h21 h33 hJ1 (by have h := hw; rw [List.append_nil] at h; exact h)) ?_)
    rintro v L2 hJ2
    rw [List.append_nil]
    refine gw ?_
    refine S.r (Qt.as (Qt.quo (b := 2) rfl rfl ow (by have := Nat.div_le_self f (2 ^ k); simp only [kmax]; omega)) (by rw [zay])) (gw ?_)
    refine S.r (Qt.as (Qt.quo (b := 2) rfl rfl ow (by have := Nat.div_le_self (f + n - 1) (2 ^ k); simp only [kmax]; omega)) (by rw [zay])) (gw ?_)
    refine ⟨(k + 1, L2), ?_, ?_, ⟨?_, ag⟩, sr⟩
    ·exact ⟨by show _ ≤ _; dsimp only; omega, hJ2⟩
    ·show _ < _; dsimp only; omega
    exact outs
   ·refine S.r (Qt.as (Qt.quo (b := 2) rfl rfl ow (by have := Nat.div_le_self f (2 ^ k); simp only [kmax]; omega)) (by rw [zay])) (gw ?_)
    refine S.r (Qt.as (Qt.quo (b := 2) rfl rfl ow (by have := Nat.div_le_self (f + n - 1) (2 ^ k); simp only [kmax]; omega)) (by rw [zay])) (gw ?_)
    refine ⟨(k + 1, L1), ?_, ?_, ⟨?_, ag⟩, sr⟩
    ·exact ⟨by show _ ≤ _; dsimp only; omega, by rw [zcq h33]; exact hJ1⟩
    ·show _ < _; dsimp only; omega
    exact outs
  ·refine S.r (Qt.rem (b := 2) rfl rfl ow) ?_
   refine S.dec rfl rfl (Qt.eq (b := 0) rfl rfl) (fun h33 => gw ?_) (fun h33 => gw ?_)
   ·refine S.r (Qt.add (b := 1) rfl rfl (by have := Nat.div_le_self (f + n - 1) (2 ^ k); simp only [kmax]; omega)) ?_
    refine S.o (OpV.con (Pre := Lk) (R := []) her rfl ((by show List.Perm Lk (Lk ++ []); rw [List.append_nil])) (fun w hw => hright k _ _ w h21 h33 (by rw [← zcp h25] at hJ; exact hJ) (by have h := hw; rw [List.append_nil] at h; exact h)) ?_)
    rintro v L2 hJ2
    rw [List.append_nil]
    refine gw ?_
    refine S.r (Qt.as (Qt.quo (b := 2) rfl rfl ow (by have := Nat.div_le_self f (2 ^ k); simp only [kmax]; omega)) (by rw [zay])) (gw ?_)
    refine S.r (Qt.as (Qt.quo (b := 2) rfl rfl ow (by have := Nat.div_le_self (f + n - 1) (2 ^ k); simp only [kmax]; omega)) (by rw [zay])) (gw ?_)
    refine ⟨(k + 1, L2), ?_, ?_, ⟨?_, ag⟩, sr⟩
    ·exact ⟨by show _ ≤ _; dsimp only; omega, hJ2⟩
    ·show _ < _; dsimp only; omega
    exact outs
   ·refine S.r (Qt.as (Qt.quo (b := 2) rfl rfl ow (by have := Nat.div_le_self f (2 ^ k); simp only [kmax]; omega)) (by rw [zay])) (gw ?_)
    refine S.r (Qt.as (Qt.quo (b := 2) rfl rfl ow (by have := Nat.div_le_self (f + n - 1) (2 ^ k); simp only [kmax]; omega)) (by rw [zay])) (gw ?_)
    refine ⟨(k + 1, Lk), ?_, ?_, ⟨?_, ag⟩, sr⟩
    ·exact ⟨by show _ ≤ _; dsimp only; omega, by rw [zcq h33, zcp h25]; exact hJ⟩
    ·show _ < _; dsimp only; omega
    exact outs
 ·refine TC.exit ?_
  refine finQ.normal RVs.nil sr ?_
  obtain rfl : k = h := by omega
  exact hJ
theorem zpi (a b m n l p : Nat) (hm : m ≤ 4096) (hn : n ≤ 4096) (w0 : World) (hL : Sat w0 [Blk a 3 [.int .i64 ((m : Nat) : Int)], Blk b 3 [.int .i64 ((n : Nat) : Int)]]) :
  Calls prog 128 #[.int .i64 (l : Int), .int .u64 (p : Int), .pointer (some ⟨a, 0, none⟩)] w0 (Post w0 (fps [Blk a 3 [.int .i64 ((m : Nat) : Int)], Blk b 3 [.int .i64 ((n : Nat) : Int)]]) fun v L => L = [Blk a 3 [.int .i64 ((m + 1 : Nat) : Int)], Blk b 3 [.int .i64 ((n : Nat) : Int)]]) := by
 refine cof (L := [Blk a 3 [.int .i64 ((m : Nat) : Int)], Blk b 3 [.int .i64 ((n : Nat) : Int)]]) 7 [] func128 hL ?_
 refine gw ?_
 refine S.opN rfl (OpV.storeV0 rfl cw (by exact ce3) (by rfl) (by rfl) ?_)
 refine gw ?_
 refine finQ.normal RVs.nil sr ?_
 rfl
theorem zpj (a b m n l p : Nat) (hm : m ≤ 4096) (hn : n ≤ 4096) (w0 : World) (hL : Sat w0 [Blk a 3 [.int .i64 ((m : Nat) : Int)], Blk b 3 [.int .i64 ((n : Nat) : Int)]]) :
  Calls prog 129 #[.int .i64 (l : Int), .int .u64 (p : Int), .pointer (some ⟨b, 0, none⟩)] w0 (Post w0 (fps [Blk a 3 [.int .i64 ((m : Nat) : Int)], Blk b 3 [.int .i64 ((n : Nat) : Int)]]) fun v L => L = [Blk a 3 [.int .i64 ((m : Nat) : Int)], Blk b 3 [.int .i64 ((n + 1 : Nat) : Int)]]) := by
 refine cof (L := [Blk a 3 [.int .i64 ((m : Nat) : Int)], Blk b 3 [.int .i64 ((n : Nat) : Int)]]) 7 [] func129 hL ?_
 refine gw ?_
 refine S.opN rfl (OpV.storeV1 rfl cw (by exact ce3) (by rfl) (by rfl) ?_)
 refine gw ?_
 refine finQ.normal RVs.nil sr ?_
 rfl
theorem zgW (h f n : Nat) (hh : h ≤ 32) (hf64 : f < 18446744073709551616) (hf : f + n ≤ 2 ^ h) (h1 : 1 ≤ n) (h2 : n ≤ 256) (w0 : World) :
  Calls prog 63 #[.int .i64 (h : Int), .int .u64 (f : Int), .int .i64 (n : Int)] w0 (Post w0 [] fun v L => v = .tuple #[.int .i64 (((zaq f h).length : Nat) : Int), .int .i64 (((zan (f + n - 1) h).length : Nat) : Int), .nilIface] ∧ L = []) := by
 refine co 23 [.cell 6 3, .cell 7 3, .tmp 8] func63 ?_
 refine gw ?_
 intro b6
 refine gw ?_
 intro b7
 refine gw ?_
 refine S.c0 J104 (fun w hw => (by have k := zgV h f n hh hf64 h1 h2 w; rw [decide_eq_true hf] at k; exact k : Calls prog 104 #[.int .i64 (h : Int), .int .u64 (f : Int), .int .i64 (n : Int)] w (Ret w (.bool true)))) (gw ?_)
 refine S.r (Qt.makeFuncL (fs := []) (cs := [.pointer (some ⟨b6, 0, none⟩)]) rfl rfl) ?_
 refine S.r (Qt.makeFuncL (fs := []) (cs := [.pointer (some ⟨b7, 0, none⟩)]) rfl rfl) ?_
 refine S.o (OpV.con (Pre := [Blk b6 3 [.int .i64 ((0 : Nat) : Int)], Blk b7 3 [.int .i64 ((0 : Nat) : Int)]]) (R := _) J127 rfl pm1 (fun w hw => zhZ (fun ls rs L => ls.length ≤ 64 ∧ rs.length ≤ 64 ∧ L = [Blk b6 3 [.int .i64 ((ls.length : Nat) : Int)], Blk b7 3 [.int .i64 ((rs.length : Nat) : Int)]]) h f n hh hf h1 h2 128 129 #[.pointer (some ⟨b6, 0, none⟩)] #[.pointer (some ⟨b7, 0, none⟩)] J128 J129 _ w hw.sat.left ⟨Nat.zero_le _, Nat.zero_le _, rfl⟩ (fun k rs L w' hk hb hJ hst => by obtain ⟨j1, j2, rfl⟩ := hJ; exact (zpi b6 b7 _ _ k _ ow ow w' hst.sat).mono fun e w'' ⟨v, L', q1, q2, q3⟩ => ⟨v, L', q1, q2, (by have := zgw f (k + 1); omega), j2, by subst q3; rw [zb4 hb, zaJ]⟩) (fun k ls L w' hk hb hJ hst => by obtain ⟨j1, j2, rfl⟩ := hJ; exact (zpj b6 b7 _ _ k _ ow ow w' hst.sat).mono fun e w'' ⟨v, L', q1, q2, q3⟩ => ⟨v, L', q1, q2, j1, (by have := zgx (f + n - 1) (k + 1); omega), by subst q3; rw [zb5 hb, zaJ]⟩)) ?_)
 rintro v L' ⟨hj1, hj2, rfl⟩
 refine gw ?_
 refine dr ([2, 3], []) (gw ?_)
 refine D.oN 2 rfl (OpV.storeV0 rfl cw (by exact ce3) (by rfl) (by rfl) (sbk ?_))
 refine D.oN 3 rfl (OpV.storeV1 rfl cw (by exact ce3) (by rfl) (by rfl) (sbk ?_))
 refine gw ?_
 refine D.fi ?_
 refine TC.ret ?_
 refine finQ.ret (RVs.cell rfl (Ld.one hz0 oT (rfl)) (RVs.cell rfl (Ld.one hz1 oT (rfl)) rv)) sn ?_
 exact ⟨rfl, rfl⟩
theorem zjW (p : Addr) (u v2 : Value) (w0 : World) :
  Calls prog 145 #[.pointer (some p), u, v2] w0 (Post w0 [] fun v L => ∃ b, v = .func (.func 146) #[] #[u, v2, .pointer (some ⟨b, 0, none⟩)] ∧ L = [Blk b 257 [.pointer (some p)]]) := by
 refine co 6 [.tmp 4] func145 ?_
 refine gw ?_
 intro b3
 refine gw ?_
 refine S.r (Qt.makeFuncL (fs := []) (cs := [u, v2, .pointer (some ⟨b3, 0, none⟩)]) rfl rfl) (gw ?_)
 refine TC.ret (fin1 sr ?_)
 exact ⟨_, rfl, rfl⟩
theorem zpk (E : Nat → H32) (tb mb height : Nat) (ms : Tm) (hh : height ≤ 32) (pb tv eb qb : Nat) (ls rs : Sd) (hl : ls.length ≤ 64) (Ol : OAd) (c : Nat) (Or : OAd) (d : Nat) (l p : Nat) (ho : okAt height (l, p)) (w0 : World) (hL : Sat w0 [Blk pb 43 [.slice Ol ls.length c, .slice Or rs.length d], OwnA 49 32 Ol (ls).length c (hcs ((ls).map (fun a => getT E ms a))), OwnA 49 32 Or (rs).length d (hcs ((rs).map (fun a => getT E ms a)))]) (hB : Ro w0 (fps [Blk pb 43 [.slice Ol ls.length c, .slice Or rs.length d], OwnA 49 32 Ol (ls).length c (hcs ((ls).map (fun a => getT E ms a))), OwnA 49 32 Or (rs).length d (hcs ((rs).map (fun a => getT E ms a)))]) (Blk tb 243 (zar E height mb))) (hM : Ro w0 (fps [Blk pb 43 [.slice Ol ls.length c, .slice Or rs.length d], OwnA 49 32 Ol (ls).length c (hcs ((ls).map (fun a => getT E ms a))), OwnA 49 32 Or (rs).length d (hcs ((rs).map (fun a => getT E ms a)))]) (MapA mb zau hv (ms))) (hV : Ro w0 (fps [Blk pb 43 [.slice Ol ls.length c, .slice Or rs.length d], OwnA 49 32 Ol (ls).length c (hcs ((ls).map (fun a => getT E ms a))), OwnA 49 32 Or (rs).length d (hcs ((rs).map (fun a => getT E ms a)))]) (Blk tv 155 [.pointer (some ⟨tb, 0, none⟩)])) (hQ : Ro w0 (fps [Blk pb 43 [.slice Ol ls.length c, .slice Or rs.length d], OwnA 49 32 Ol (ls).length c (hcs ((ls).map (fun a => getT E ms a))), OwnA 49 32 Or (rs).length d (hcs ((rs).map (fun a => getT E ms a)))]) (Blk qb 257 [.pointer (some ⟨pb, 0, none⟩)])) :
  Calls prog 146 #[.int .i64 (l : Int), .int .u64 (p : Int), .pointer (some ⟨tv, 0, none⟩), .pointer (some ⟨eb, 0, none⟩), .pointer (some ⟨qb, 0, none⟩)] w0 (Post w0 (fps [Blk pb 43 [.slice Ol ls.length c, .slice Or rs.length d], OwnA 49 32 Ol (ls).length c (hcs ((ls).map (fun a => getT E ms a))), OwnA 49 32 Or (rs).length d (hcs ((rs).map (fun a => getT E ms a)))]) fun v L => ∃ O2 d2, L = [Blk pb 43 [.slice O2 (ls ++ [(l, p)]).length d2, .slice Or rs.length d], OwnA 49 32 O2 (ls ++ [(l, p)]).length d2 (hcs ((ls ++ [(l, p)]).map (fun a => getT E ms a))), OwnA 49 32 Or (rs).length d (hcs ((rs).map (fun a => getT E ms a)))]) := by
 refine cof (L := [Blk pb 43 [.slice Ol ls.length c, .slice Or rs.length d], OwnA 49 32 Ol (ls).length c (hcs ((ls).map (fun a => getT E ms a))), OwnA 49 32 Or (rs).length d (hcs ((rs).map (fun a => getT E ms a)))]) 27 [] func146 hL ?_
 refine gw ?_
 refine S.c0 J141 (fun w hw => Calls.ret (zeU E tb mb height ms l p ho hh w (Rd.ro hB w hw) (Rd.ro hM w hw))) (gw ?_)
 intro b7
 refine S.opN rfl (OpV.storeV0 (v := hv (_)) rfl rfl (zab ce49) (zai _) (zaf _) ?_)
 refine gw ?_
 refine dw ([6, 8], [5]) (gw ?_)
 refine D.nN 5 rfl (OpV.slice1 (bytes := 32) (v := hv (getT E ms (l, p))) uT elem49 (by decide) rfl (zaf _) (fun g24 => (sbk ?_)))
 refine D.oS 6 rfl (OpV.app3 (bytes := 32) (news := hvl (getT E ms (l, p))) uT elem49 rfl rfl (Has.blk (cs := hvl (getT E ms (l, p))) hz0) (by rw [zag]) (zaw _) (by simp only [maxLen]; omega) ow (fun O2 d2 => (sbk ?_)))
 refine gw ?_
 refine D.oN 8 rfl (OpV.storeC2 rfl cw cT rfl rfl (Nat.le_of_ble_eq_true rfl) (sbk ?_))
 refine D.fi ?_
 refine finQ.normal RVs.nil (Sub.trans (sk (sk (sk (sd (sd sn0))))) (Sub.trans (sk (Sub.trans (sk (Sub.trans (sk sr) (Sub.of_perm pm2))) (Sub.of_perm pm2))) (Sub.of_perm pm2))) ?_
 refine ⟨O2, d2, ?_⟩
 simp only [zaJ, List.map_append, zbg, List.map_cons, List.map_nil, za7, zen, List.append_nil]
 rfl
theorem zpl (E : Nat → H32) (tb mb height : Nat) (ms : Tm) (hh : height ≤ 32) (pb tv eb qb : Nat) (ls rs : Sd) (hl : rs.length ≤ 64) (Ol : OAd) (c : Nat) (Or : OAd) (d : Nat) (l p : Nat) (ho : okAt height (l, p)) (w0 : World) (hL : Sat w0 [Blk pb 43 [.slice Ol ls.length c, .slice Or rs.length d], OwnA 49 32 Ol (ls).length c (hcs ((ls).map (fun a => getT E ms a))), OwnA 49 32 Or (rs).length d (hcs ((rs).map (fun a => getT E ms a)))]) (hB : Ro w0 (fps [Blk pb 43 [.slice Ol ls.length c, .slice Or rs.length d], OwnA 49 32 Ol (ls).length c (hcs ((ls).map (fun a => getT E ms a))), OwnA 49 32 Or (rs).length d (hcs ((rs).map (fun a => getT E ms a)))]) (Blk tb 243 (zar E height mb))) (hM : Ro w0 (fps [Blk pb 43 [.slice Ol ls.length c, .slice Or rs.length d], OwnA 49 32 Ol (ls).length c (hcs ((ls).map (fun a => getT E ms a))), OwnA 49 32 Or (rs).length d (hcs ((rs).map (fun a => getT E ms a)))]) (MapA mb zau hv (ms))) (hV : Ro w0 (fps [Blk pb 43 [.slice Ol ls.length c, .slice Or rs.length d], OwnA 49 32 Ol (ls).length c (hcs ((ls).map (fun a => getT E ms a))), OwnA 49 32 Or (rs).length d (hcs ((rs).map (fun a => getT E ms a)))]) (Blk tv 155 [.pointer (some ⟨tb, 0, none⟩)])) (hQ : Ro w0 (fps [Blk pb 43 [.slice Ol ls.length c, .slice Or rs.length d], OwnA 49 32 Ol (ls).length c (hcs ((ls).map (fun a => getT E ms a))), OwnA 49 32 Or (rs).length d (hcs ((rs).map (fun a => getT E ms a)))]) (Blk qb 257 [.pointer (some ⟨pb, 1, none⟩)])) :
  Calls prog 146 #[.int .i64 (l : Int), .int .u64 (p : Int), .pointer (some ⟨tv, 0, none⟩), .pointer (some ⟨eb, 0, none⟩), .pointer (some ⟨qb, 0, none⟩)] w0 (Post w0 (fps [Blk pb 43 [.slice Ol ls.length c, .slice Or rs.length d], OwnA 49 32 Ol (ls).length c (hcs ((ls).map (fun a => getT E ms a))), OwnA 49 32 Or (rs).length d (hcs ((rs).map (fun a => getT E ms a)))]) fun v L => ∃ O2 d2, L = [Blk pb 43 [.slice Ol ls.length c, .slice O2 (rs ++ [(l, p)]).length d2], OwnA 49 32 Ol (ls).length c (hcs ((ls).map (fun a => getT E ms a))), OwnA 49 32 O2 (rs ++ [(l, p)]).length d2 (hcs ((rs ++ [(l, p)]).map (fun a => getT E ms a)))]) := by
 refine cof (L := [Blk pb 43 [.slice Ol ls.length c, .slice Or rs.length d], OwnA 49 32 Ol (ls).length c (hcs ((ls).map (fun a => getT E ms a))), OwnA 49 32 Or (rs).length d (hcs ((rs).map (fun a => getT E ms a)))]) 27 [] func146 hL ?_
 refine gw ?_
 refine S.c0 J141 (fun w hw => Calls.ret (zeU E tb mb height ms l p ho hh w (Rd.ro hB w hw) (Rd.ro hM w hw))) (gw ?_)
 intro b7
 refine S.opN rfl (OpV.storeV0 (v := hv (_)) rfl rfl (zab ce49) (zai _) (zaf _) ?_)
 refine gw ?_
 refine dw ([6, 8], [5]) (gw ?_)
 refine D.nN 5 rfl (OpV.slice1 (bytes := 32) (v := hv (getT E ms (l, p))) uT elem49 (by decide) rfl (zaf _) (fun g24 => (sbk ?_)))
 refine D.oS 6 rfl (OpV.app4 (bytes := 32) (news := hvl (getT E ms (l, p))) uT elem49 rfl rfl (Has.blk (cs := hvl (getT E ms (l, p))) hz0) (by rw [zag]) (zaw _) (by simp only [maxLen]; omega) ow (fun O2 d2 => (sbk ?_)))
 refine gw ?_
 refine D.oN 8 rfl (OpV.storeC2 rfl cw cT rfl rfl (Nat.le_of_ble_eq_true rfl) (sbk ?_))
 refine D.fi ?_
 refine finQ.normal RVs.nil (Sub.trans (sk (sk (sk (sd (sd sn0))))) (Sub.trans (sk (Sub.trans (sk (Sub.trans (sk sr) (Sub.of_perm pm2))) (Sub.of_perm pm2))) (Sub.of_perm pm2))) ?_
 refine ⟨O2, d2, ?_⟩
 simp only [zaJ, List.map_append, zbg, List.map_cons, List.map_nil, za7, zen, List.append_nil]
 rfl
theorem zjX (E : Nat → H32) (tb mb height : Nat) (ms : Tm) (f n : Nat) (hh : height ≤ 32) (hf64 : f < 18446744073709551616) (hf : f + n ≤ 2 ^ height) (h1 : 1 ≤ n) (h2 : n ≤ 256) (w0 : World) (hB : Ro w0 [] (Blk tb 243 (zar E height mb))) (hM : Ro w0 [] (MapA mb zau hv (ms))) :
    Calls prog 85 #[.pointer (some ⟨tb, 0, none⟩), .int .u64 (f : Int), .int .i64 (n : Int)] w0 (Post w0 [] fun v L => ∃ Ol c Or d, v = .tuple #[.agg #[.slice Ol (zaq f height).length c, .slice Or (zan (f + n - 1) height).length d], .nilIface] ∧ L = [OwnA 49 32 Ol (zaq f height).length c (hcs ((zaq f height).map (fun a => getT E ms a))), OwnA 49 32 Or (zan (f + n - 1) height).length d (hcs ((zan (f + n - 1) height).map (fun a => getT E ms a)))]) := by
  refine Calls.of (L := []) (n := 42) (rs := [.cell 6 43, .tmp 7]) func85 rfl rfl rfl (Nat.le_of_ble_eq_true rfl) (Sat.nil _) ?_
  refine TC.ownNil 49 32 ?_
  refine TC.ownNil 49 32 ?_
  refine TC.seq ?_
  refine TC.region ?_
  refine S.o (OpV.box cw (fun b3 => ?_))
  refine S.o (OpV.alloc zT (fun b6 => ?_))
  refine S.as ?_
  refine S.nil ?_
  refine TC.seq ?_
  refine TC.block ?_
  refine TC.seq ?_
  refine TC.region ?_
  refine S.r (Qt.load rfl (Ld.one hz1 oT rfl)) ?_
  refine S.r (Qt.eqp_some uT rfl) ?_
  refine S.as ?_
  refine S.nil ?_
  refine S.if_f rfl ?_
  refine TC.seq ?_
  refine TC.region ?_
  refine S.r (Qt.load rfl (Ld.one hz1 oT rfl)) ?_
  refine S.o (OpV.con0 J80 rfl (fun w hw => zbc E tb mb height w (Rd.ro hB w hw)) ?_)
  refine S.mv ?_
  refine S.mv ?_
  refine S.o (OpV.con0 J104 rfl (fun w hw => (by have k := zgV height f n hh hf64 h1 h2 w; rw [decide_eq_true hf] at k; exact k : Calls prog 104 #[.int .i64 (height : Int), .int .u64 (f : Int), .int .i64 (n : Int)] w (Ret w (.bool true)))) ?_)
  refine S.r (Qt.not_t rfl) ?_
  refine S.as ?_
  refine S.nil ?_
  refine S.if_f rfl ?_
  refine TC.skip ?_
  refine TC.seq ?_
  refine TC.region ?_
  refine S.o (OpV.alloc zT (fun b8 => ?_))
  refine S.nil ?_
  refine TC.seq ?_
  refine TC.region ?_
  refine S.o (OpV.alloc zT (fun b9 => ?_))
  refine S.nil ?_
  refine TC.seq ?_
  refine TC.region ?_
  refine S.r (Qt.makeFuncL (fs := []) (cs := [.pointer (some ⟨b3, 0, none⟩), .pointer (some ⟨b9, 0, none⟩)]) rfl rfl) ?_
  refine S.as ?_
  refine S.nil ?_
  refine TC.seq ?_
  refine TC.region ?_
  refine S.r (Qt.load rfl (Ld.one hz3 oT rfl)) ?_
  refine S.o (OpV.con0 J80 rfl (fun w hw => zbc E tb mb height w (Rd.ro hB w hw)) ?_)
  refine S.mv ?_
  refine S.mv ?_
  refine S.mv ?_
  refine S.r (Qt.field uT rfl ce33 rfl) ?_
  refine S.o (OpV.con (Pre := []) (R := _) J145 rfl pr (fun w hw => zjW ⟨b8, 0, none⟩ (.pointer (some ⟨b3, 0, none⟩)) (.pointer (some ⟨b9, 0, none⟩)) w) ?_)
  rintro v L' ⟨qb1, rfl, rfl⟩
  refine S.mv ?_
  refine S.r (Qt.field uT rfl ce33 rfl) ?_
  refine S.o (OpV.con (Pre := []) (R := _) J145 rfl pr (fun w hw => zjW ⟨b8, 1, none⟩ (.pointer (some ⟨b3, 0, none⟩)) (.pointer (some ⟨b9, 0, none⟩)) w) ?_)
  rintro v L' ⟨qb2, rfl, rfl⟩
  refine S.o (OpV.con (Pre := [Blk b8 43 [.slice none ([] : Sd).length 0, .slice none ([] : Sd).length 0], OwnA 49 32 none (([] : Sd)).length 0 (hcs ((([] : Sd)).map (fun a => getT E ms a))), OwnA 49 32 none (([] : Sd)).length 0 (hcs ((([] : Sd)).map (fun a => getT E ms a)))]) (R := _) J127 rfl (pm3.trans (pc (pm5.trans (pc pm5)))) (fun w hw => zhZ (fun ls rs L => ls.length ≤ 64 ∧ rs.length ≤ 64 ∧ ∃ Ol c Or d, L = [Blk b8 43 [.slice Ol ls.length c, .slice Or rs.length d], OwnA 49 32 Ol (ls).length c (hcs ((ls).map (fun a => getT E ms a))), OwnA 49 32 Or (rs).length d (hcs ((rs).map (fun a => getT E ms a)))]) height f n hh hf h1 h2 146 146 #[.pointer (some ⟨b3, 0, none⟩), .pointer (some ⟨b9, 0, none⟩), .pointer (some ⟨qb1, 0, none⟩)] #[.pointer (some ⟨b3, 0, none⟩), .pointer (some ⟨b9, 0, none⟩), .pointer (some ⟨qb2, 0, none⟩)] J146 J146 _ w hw.sat.left ⟨Nat.zero_le _, Nat.zero_le _, none, 0, none, 0, rfl⟩ (fun k rs L w' hk hb hJ hst => by obtain ⟨j1, j2, Ol, c, Or, d, rfl⟩ := hJ; exact (zpk E tb mb height ms hh b8 b3 b9 qb1 _ _ ow Ol c Or d k _ (zoo ow hk hb) w' hst.sat (Ro.of_pre (R := []) (by rw [List.append_nil]; exact hst) (Ro.of_pre hw hB)) (Ro.of_pre (R := []) (by rw [List.append_nil]; exact hst) (Ro.of_pre hw hM)) (Ro.of_pre (R := []) (by rw [List.append_nil]; exact hst) (Ro.of_rest hw (List.mem_of_getElem? (i := 4) rfl))) (Ro.of_pre (R := []) (by rw [List.append_nil]; exact hst) (Ro.of_rest hw (List.mem_of_getElem? (i := 1) rfl)))).mono fun e w'' ⟨v, L', q1, q2, q3'⟩ => by obtain ⟨O2, c2, q3⟩ := q3'; exact ⟨v, L', q1, q2, (by have := zgw f (k + 1); omega), j2, ⟨O2, c2, Or, d, by subst q3; rw [zb4 hb]⟩⟩) (fun k ls L w' hk hb hJ hst => by obtain ⟨j1, j2, Ol, c, Or, d, rfl⟩ := hJ; exact (zpl E tb mb height ms hh b8 b3 b9 qb2 _ _ ow Ol c Or d k _ (zmK ow hk hb) w' hst.sat (Ro.of_pre (R := []) (by rw [List.append_nil]; exact hst) (Ro.of_pre hw hB)) (Ro.of_pre (R := []) (by rw [List.append_nil]; exact hst) (Ro.of_pre hw hM)) (Ro.of_pre (R := []) (by rw [List.append_nil]; exact hst) (Ro.of_rest hw (List.mem_of_getElem? (i := 4) rfl))) (Ro.of_pre (R := []) (by rw [List.append_nil]; exact hst) (Ro.of_rest hw (List.mem_of_getElem? (i := 0) rfl)))).mono fun e w'' ⟨v, L', q1, q2, q3'⟩ => by obtain ⟨O2, c2, q3⟩ := q3'; exact ⟨v, L', q1, q2, j1, (by have := zgx (f + n - 1) (k + 1); omega), ⟨Ol, c, O2, c2, by subst q3; rw [zb5 hb]⟩⟩)) ?_)
  rintro v L' ⟨hj1, hj2, Ol, c, Or, d, rfl⟩
  refine S.nil ?_
  refine TC.seq ?_
  refine TC.seq ?_
  refine TC.region ?_
  refine S.r (Qt.load rfl (Ld.one (Has.at 5 rfl) oT rfl)) ?_
  refine S.r (Qt.nenil_nil uT rfl) ?_
  refine S.nil ?_
  refine S.if_f rfl ?_
  refine TC.skip ?_
  refine TC.seq ?_
  refine TC.region ?_
  refine S.r (Qt.load rfl (Ld.all hz0 rT (ce43))) ?_
  refine S.opN rfl (OpV.storeV6 rfl cw (by exact ce43) (by rfl) (by rfl) ?_)
  refine S.as ?_
  refine S.nil ?_
  refine TC.ret ?_
  refine finQ.ret (RVs.cell rfl (Ld.all (Has.at 6 rfl) rT (ce43)) rv) (Sub.trans (sk (sk (sd (sd (sd (sd (sd (sd sn0)))))))) (Sub.trans (sk (Sub.trans (sk sr) (Sub.of_perm pm1))) (Sub.of_perm pm1))) ?_
  exact ⟨Ol, c, Or, d, rfl, rfl⟩
theorem ziI (f n : Nat) (hf64 : f < 18446744073709551616) (h1 : 1 ≤ n) (h2 : n ≤ 256) (hf : ¬ f + n ≤ 2 ^ 32) (w0 : World) :
  Calls prog 40 #[.int .u64 (f : Int), .int .i64 (n : Int)] w0 (Post w0 [] fun v L => v = .slice none 0 0 ∧ L = []) := by
 refine co 24 [.tmp 4] func40 ?_
 refine gw ?_
 refine S.c0 J104 (fun w hw => (by have h := zgV 32 f n (by decide) hf64 h1 h2 w; rw [decide_eq_false hf] at h; exact h : Calls prog 104 #[.int .i64 32, .int .u64 (f : Int), .int .i64 (n : Int)] w (Ret w (.bool false)))) (gw ?_)
 refine TC.ret (fR ?_)
 exact ⟨rfl, rfl⟩
theorem ziJ (f : Nat) (m : Int) (hm : m < 1 ∨ 256 < m) (w0 : World) :
  Calls prog 40 #[.int .u64 (f : Int), .int .i64 m] w0 (Post w0 [] fun v L => v = .slice none 0 0 ∧ L = []) := by
 refine co 24 [.tmp 4] func40 ?_
 refine gw ?_
 refine S.c0 J104 (fun w hw => zme 32 f m hm (by decide) w) (gw ?_)
 refine TC.ret (fR ?_)
 exact ⟨rfl, rfl⟩
theorem zgX (A : OAd) (n c : Nat) (ps : List H32) (hn : ps.length = n) (hx : n ≤ 4096) (w0 : World) (hR : Ro w0 [] (SlA A (hcs ps))) :
  Calls prog 64 #[.slice A n c] w0 (Post w0 [] fun v L => ∃ O d, v = .slice O n d ∧ L = [OwnA 49 32 O n d (hcs ps)]) := by
 refine co 8 [.tmp 2] func64 ?_
 refine TC.ownNil 49 32 (gw ?_)
 refine S.r (Qt.eqsl uT rfl) (gw ?_)
 refine TC.ifb rfl (fun hnl => gw ?_) (fun hnl => gw ?_)
 ·refine TC.ret (fin1 sr ?_)
  obtain rfl : A = none := Option.isNone_iff_eq_none.1 hnl
  obtain rfl : ps = [] := zhF (SlA.none_nil hR.1)
  obtain rfl : n = 0 := hn.symm
  exact ⟨none, 0, rfl, rfl⟩
 ·refine S.o (OpV.slice0 uT ⟨_, elem49⟩ (fun g5 => ?_))
  refine gw ?_
  refine S.o (OpV.app0 (bytes := 32) (news := hcs ps) uT elem49 rfl rfl (Has.ro hR) (by rw [zah, hn]) (zeo _) (by simp only [maxLen]; omega) ow (fun O d => ?_))
  refine gw ?_
  refine TC.ret (fin1 (sk (sd sn)) ?_)
  exact ⟨O, d, by rw [Nat.zero_add]; rfl, by rw [Nat.zero_add, List.nil_append]⟩
theorem zk7 (E : Nat → H32) (root x : H32) (a b : Nat) (A : OAd) (c : Nat) (ps : List H32) (hc : ps.length ≤ c) (h : ¬ (okN a ∧ okN b ∧ b ≤ a)) (w0 : World)  :
  Calls prog 109 #[.agg (hvl x ++ [Value.slice A ps.length c]).toArray, hv root, .int .u64 (a : Int), .int .u64 (b : Int)] w0 (Post w0 [] fun v L => v = .tuple #[hv zac, .iface 73 (.int .i64 1)] ∧ L = []) := by
 refine co 95 [.cell 8 49, .tmp 9] func109 ?_
 refine gw ?_
 intro b4
 refine gw ?_
 intro b5
 refine gw ?_
 intro b8
 refine S.as ?_
 refine S.nil (TC.seq (TC.region (S.mv ?_)))
 refine S.mv ?_
 rcases zhG h with ha | ⟨ha, hb⟩ | ⟨ha, hb, hc2⟩
 ·refine S.c0 J169 (fun w hw => ztn a b ha w) (gw ?_)
  refine S.r (Qt.build (v := hv zac) rfl (fun _ => by kernel_rfl)) (gw ?_)
  refine S.opN rfl (OpV.storeV0 (v := hv (zac)) rfl rfl (zab ce49) (zai _) (zaf _) ?_)
  refine gw ?_
  refine TC.ret ?_
  refine finQ.ret (RVs.cell rfl (Ld.all hz0 rT (zab ce49)) rv) sn ?_
  exact ⟨rfl, rfl⟩
 ·refine S.c0 J169 (fun w hw => zrW a b ha hb w) (gw ?_)
  refine S.r (Qt.build (v := hv zac) rfl (fun _ => by kernel_rfl)) (gw ?_)
  refine S.opN rfl (OpV.storeV0 (v := hv (zac)) rfl rfl (zab ce49) (zai _) (zaf _) ?_)
  refine gw ?_
  refine TC.ret ?_
  refine finQ.ret (RVs.cell rfl (Ld.all hz0 rT (zab ce49)) rv) sn ?_
  exact ⟨rfl, rfl⟩
 ·refine S.c0 J169 (fun w hw => zgU a b ha hb w) (gw ?_)
  refine S.qg rfl rfl rfl (Qt.dT (Qt.gt rfl rfl) ow) (gw ?_)
  refine S.r (Qt.build (v := hv zac) rfl (fun _ => by kernel_rfl)) (gw ?_)
  refine S.opN rfl (OpV.storeV0 (v := hv (zac)) rfl rfl (zab ce49) (zai _) (zaf _) ?_)
  refine gw ?_
  refine TC.ret ?_
  refine finQ.ret (RVs.cell rfl (Ld.all hz0 rT (zab ce49)) rv) sn ?_
  exact ⟨rfl, rfl⟩
theorem zk8 (E : Nat → H32) (root x : H32) (a b : Nat) (A : OAd) (c : Nat) (ps : List H32) (hc : ps.length ≤ c) (h : okN a ∧ okN b ∧ b ≤ a) (h2 : ps.length ≠ hgt a) (w0 : World)  :
  Calls prog 109 #[.agg (hvl x ++ [Value.slice A ps.length c]).toArray, hv root, .int .u64 (a : Int), .int .u64 (b : Int)] w0 (Post w0 [] fun v L => v = .tuple #[hv zac, .iface 73 (.int .i64 2)] ∧ L = []) := by
 refine co 95 [.cell 8 49, .tmp 9] func109 ?_
 obtain ⟨ha, hb, hab⟩ := id h
 have hb1 := hb.1
 have hb2 := hb.2
 refine gw ?_
 intro b4
 refine gw ?_
 intro b5
 refine gw ?_
 intro b8
 refine gw ?_
 refine S.c0 J169 (fun w hw => zgU a b ha hb w) (gw ?_)
 refine S.qg rfl rfl rfl (Qt.dF (Qt.gt rfl rfl) ow) (gw ?_)
 refine S.r (Qt.load rfl (Ld.one (v := .slice A ps.length c) hz2 oT (zbQ x _))) (gw ?_)
 refine S.r (Qt.dT (Qt.ne rfl rfl) (h2)) (gw ?_)
 refine S.r (Qt.build (v := hv zac) rfl (fun _ => by kernel_rfl)) (gw ?_)
 refine S.opN rfl (OpV.storeV0 (v := hv (zac)) rfl rfl (zab ce49) (zai _) (zaf _) ?_)
 refine gw ?_
 refine TC.ret ?_
 refine finQ.ret (RVs.cell rfl (Ld.all hz0 rT (zab ce49)) rv) sn ?_
 exact ⟨rfl, rfl⟩
theorem zk9 (E : Nat → H32) (root x : H32) (a b : Nat) (A : OAd) (c : Nat) (ps : List H32) (hc : ps.length ≤ c) (h : okN a ∧ okN b ∧ b ≤ a) (h2 : ps.length = hgt a) (h3 : zbt x (b - 1) ps ≠ root) (w0 : World) (hR : Ro w0 [] (SlA A (hcs ps))) (hT : Tabs 3 1 w0 []) :
  Calls prog 109 #[.agg (hvl x ++ [Value.slice A ps.length c]).toArray, hv root, .int .u64 (a : Int), .int .u64 (b : Int)] w0 (Post w0 [] fun v L => v = .tuple #[hv zac, .iface 73 (.int .i64 5)] ∧ L = []) := by
 refine co 95 [.cell 8 49, .tmp 9] func109 ?_
 obtain ⟨ha, hb, hab⟩ := id h
 have hb1 := hb.1
 have hb2 := hb.2
 refine gw ?_
 intro b4
 refine gw ?_
 intro b5
 refine gw ?_
 intro b8
 refine gw ?_
 refine S.c0 J169 (fun w hw => zgU a b ha hb w) (gw ?_)
 refine S.qg rfl rfl rfl (Qt.dF (Qt.gt rfl rfl) ow) (gw ?_)
 refine S.r (Qt.load rfl (Ld.one (v := .slice A ps.length c) hz2 oT (zbQ x _))) (gw ?_)
 refine S.r (Qt.dF (Qt.ne rfl rfl) (fun k => k h2)) (gw ?_)
 refine S.r (Qt.load rfl (Ld.row (vs := hvl x) hz2 rT (by rw [zag]; exact ce49) (zcT x _))) (gw ?_)
 refine S.r (Qt.sub (b := 1) rfl rfl ow km) (gw ?_)
 refine S.r (Qt.load rfl (Ld.one (v := .slice A ps.length c) hz2 oT (zbQ x _))) ?_
 refine S.c0 J170 (fun w hw => zfi x (b - 1) A ps.length c ps rfl ow (by rw [h2]; exact zeT hb ha hab) w (Rd.ro hR w hw) (hT.at hw)) (gw ?_)
 intro b13
 refine S.opN rfl (OpV.storeV0 (v := hv (_)) rfl rfl (zab ce49) (zai _) (zaf _) ?_)
 refine gw ?_
 refine S.r (Qt.dT (Qt.neH (a := zbt x (b - 1) ps) (b := root) guard49 uT uT cT rfl rfl) h3) (gw ?_)
 refine S.r (Qt.build (v := hv zac) rfl (fun _ => by kernel_rfl)) (gw ?_)
 refine S.opN rfl (OpV.storeV1 (v := hv (zac)) rfl rfl (zab ce49) (zai _) (zaf _) ?_)
 refine gw ?_
 refine TC.ret ?_
 refine finQ.ret (RVs.cell rfl (Ld.all hz1 rT (zab ce49)) rv) sn ?_
 exact ⟨rfl, rfl⟩
theorem zla (E : Nat → H32) (hEm : ∀ w, Tabs 3 1 w [] → Calls prog 55 #[] w (Ret w (.agg (hcs (zbd E)).toArray))) (root x : H32) (a b : Nat) (A : OAd) (c : Nat) (ps : List H32) (hc : ps.length ≤ c) (h : okN a ∧ okN b ∧ b ≤ a) (h2 : ps.length = hgt a) (h3 : zbt x (b - 1) ps = root) (h0 : 0 < hgt b) (w0 : World) (hR : Ro w0 [] (SlA A (hcs ps))) (hT : Tabs 3 1 w0 []) :
    Calls prog 109 #[.agg (hvl x ++ [Value.slice A ps.length c]).toArray, hv root, .int .u64 (a : Int), .int .u64 (b : Int)] w0 (Post w0 [] fun v L => v = .tuple #[hv (zbt x (b - 1) (cutP E ps (b - 1) (hgt b) (hgt b))), .nilIface] ∧ L = []) := by
  refine Calls.of (L := []) (n := 95) (rs := [.cell 8 49, .tmp 9]) func109 rfl rfl rfl (Nat.le_of_ble_eq_true rfl) (Sat.nil _) ?_
  obtain ⟨ha, hb, hab⟩ := id h
  have hb1 := hb.1
  have hb2 := hb.2
  have hm := zeS hb ha hab
  have h32 := zb0 ha
  have h32b := zb0 hb
  refine TC.seq ?_
  refine TC.region ?_
  refine S.o (OpV.box (v := .agg (hvl x ++ [Value.slice A ps.length c]).toArray) rfl (fun b4 => ?_))
  refine S.o (OpV.box (v := hv root) rfl (fun b5 => ?_))
  refine S.o (OpV.alloc zT (fun b8 => ?_))
  refine S.as ?_
  refine S.nil ?_
  refine TC.seq ?_
  refine TC.region ?_
  refine S.mv ?_
  refine S.mv ?_
  refine S.o (OpV.con0 J169 rfl (fun w hw => zgU a b ha hb w) ?_)
  refine S.mv ?_
  refine S.r (Qt.extract rfl rfl) ?_
  refine S.r (Qt.extract rfl rfl) ?_
  refine S.r (Qt.extract rfl rfl) ?_
  refine S.as ?_
  refine S.as ?_
  refine S.as ?_
  refine S.nil ?_
  refine TC.seq ?_
  refine TC.block ?_
  refine TC.seq ?_
  refine TC.region ?_
  refine S.mv ?_
  refine S.r (Qt.nenil_nil uT rfl) ?_
  refine S.mv ?_
  refine S.qg rfl rfl rfl (Qt.move cw) ?_
  refine S.qg rfl rfl rfl (Qt.move cw) ?_
  refine S.qg rfl rfl rfl (Qt.dF (Qt.gt rfl rfl) ow) ?_
  refine S.r (Qt.pick_f rfl cw) ?_
  refine S.as ?_
  refine S.nil ?_
  refine S.if_f rfl ?_
  refine TC.seq ?_
  refine TC.region ?_
  refine S.r (Qt.field uT rfl ce33 rfl) ?_
  refine S.r (Qt.load rfl (Ld.one (v := .slice A ps.length c) hz2 oT (zbQ x _))) ?_
  refine S.r (Qt.len_slice uT rfl) ?_
  refine S.mv ?_
  refine S.r (Qt.dF (Qt.ne rfl rfl) (fun k => k h2)) ?_
  refine S.as ?_
  refine S.nil ?_
  refine S.if_f rfl ?_
  refine TC.skip ?_
  refine TC.seq ?_
  refine TC.region ?_
  refine S.r (Qt.field uT rfl ce49 rfl) ?_
  refine S.r (Qt.load rfl (Ld.row (vs := hvl x) hz2 rT (by rw [zag]; exact ce49) (zcT x _))) ?_
  refine S.mv ?_
  refine S.r (Qt.sub (b := 1) rfl rfl ow km) ?_
  refine S.r (Qt.field uT rfl ce33 rfl) ?_
  refine S.r (Qt.load rfl (Ld.one (v := .slice A ps.length c) hz2 oT (zbQ x _))) ?_
  refine S.o (OpV.con0 J170 rfl (fun w hw => zfi x (b - 1) A ps.length c ps rfl ow (by rw [h2]; exact zeT hb ha hab) w (Rd.ro hR w hw) (hT.at hw)) ?_)
  refine S.mv ?_
  refine S.r (Qt.extract rfl rfl) ?_
  refine S.r (Qt.extract rfl rfl) ?_
  refine S.o (OpV.alloc zT (fun b13 => ?_))
  refine S.opN rfl (OpV.storeV0 (v := hv (_)) rfl rfl (zab ce49) (zai _) (zaf _) ?_)
  refine S.as ?_
  refine S.nil ?_
  refine TC.seq ?_
  refine TC.block ?_
  refine TC.seq ?_
  refine TC.region ?_
  refine S.mv ?_
  refine S.r (Qt.nenil_nil uT rfl) ?_
  refine S.as ?_
  refine S.nil ?_
  refine S.if_f rfl ?_
  refine TC.seq ?_
  refine TC.region ?_
  refine S.r (Qt.load rfl (Ld.hash1 (x := zbt x (b - 1) ps) hz0 rT ce49)) ?_
  refine S.r (Qt.load rfl (Ld.hash1 (x := root) hz2 rT ce49)) ?_
  refine S.r (Qt.dF (Qt.neH (a := zbt x (b - 1) ps) (b := root) guard49 uT uT cT rfl rfl) (fun k => k h3)) ?_
  refine S.as ?_
  refine S.nil ?_
  refine S.if_f rfl ?_
  refine TC.skip ?_
  refine TC.seq ?_
  refine TC.region ?_
  refine S.o (OpV.con0 J55 rfl (fun w hw => hEm w (hT.at hw)) ?_)
  refine S.o (OpV.alloc zT (fun b14 => ?_))
  refine S.opN rfl (OpV.storeV0 (v := .agg (hcs (zbd E)).toArray) rfl rfl (by rw [zav, zah, zaQ]; exact ce140) (zfg _) (by rw [zav, zah, zaQ, List.length_replicate]) ?_)
  refine S.nil ?_
  refine TC.seq ?_
  refine TC.region ?_
  refine S.r (Qt.field uT rfl ce33 rfl) ?_
  refine S.r (Qt.load rfl (Ld.one (v := .slice A ps.length c) (Has.at 4 rfl) oT (zbQ x _))) ?_
  refine S.mv ?_
  refine S.r (Qt.slice_hi uT cT rfl rfl ow) ?_
  refine S.o (OpV.con (Pre := []) (R := _) J64 rfl pr (fun w hw => zgX A (hgt b) c (ps.take (hgt b)) (by rw [List.length_take]; omega) ow w (by have h := (Rd.take (Rd.ro hR) (hgt b * 32)) w hw; rwa [zd2] at h)) ?_)
  rintro v L' ⟨O, d, rfl, rfl⟩
  refine S.as ?_
  refine S.nil ?_
  refine TC.seq ?_
  refine TC.seq ?_
  refine TC.region ?_
  refine TL.openOwnP h0 (fun g cs hO hct hcl hnc hcm => ?_)
  subst hO
  obtain ⟨rest, rfl⟩ : ∃ rest, cs = hcs (cutP E ps (b - 1) (hgt b) 0) ++ rest := ⟨_, by rw [zof E (b - 1) ow]; exact zjj hct⟩
  refine S.mv ?_
  refine S.r (Qt.len_slice uT rfl) ?_
  refine S.mv ?_
  refine S.nil ?_
  refine TC.block ?_
  refine TC.loop (γ := Nat) [72, 73, 16, 74, 75, 76, 77, 78, 79, 80, 81, 82, 83, 84, 85, 86, 71] (fun k => [(71, .int .i64 (k : Int))]) (fun k => [Blk g 49 (hcs (cutP E ps (b - 1) (hgt b) k) ++ rest), Blk b14 140 (hcs (zbd E)), Blk b13 49 (hvl (zbt x (b - 1) ps)), Blk b8 49 (List.replicate 32 (.int .u8 0)), Blk b5 49 (hvl root), Blk b4 198 (vl (.agg (hvl x ++ [Value.slice A ps.length c]).toArray))]) (fun k => k ≤ hgt b) (fun k => hgt b - k) (0)
    (Nat.zero_le _) ⟨Out.refl _ _, (List.forall_mem_cons.2 ⟨rfl, (fun _ h => nomatch h)⟩)⟩ sr ?_
  rintro k u hk
  refine TC.seq ?_
  refine TC.region ?_
  refine S.dec rfl rfl (Qt.lt rfl rfl) (fun h72 => ?_) (fun h72 => ?_)
  · refine S.nil ?_
    refine TC.seq ?_
    refine S.if_t rfl ?_
    refine TC.skip ?_
    refine TC.seq ?_
    refine TC.block ?_
    refine TC.seq ?_
    refine TC.region ?_
    refine S.mv ?_
    refine S.as ?_
    refine S.nil ?_
    refine TC.seq ?_
    refine TC.region ?_
    refine S.mv ?_
    refine S.r (Qt.sub (b := 1) rfl rfl ow km) ?_
    refine S.mv ?_
    refine S.r (Qt.shrN rfl rfl km) ?_
    refine S.r (Qt.as (Qt.andN (b := 1) rfl rfl (by have := Nat.div_le_self (b - 1) (2 ^ k); simp only [kmax]; omega) km) (by rw [Nat.and_one_is_mod])) ?_
    refine S.dec rfl rfl (Qt.eq (b := 0) rfl rfl) (fun h79 => ?_) (fun h79 => ?_)
    · refine S.nil ?_
      refine S.if_t rfl ?_
      refine TC.region ?_
      refine S.mv ?_
      refine S.mv ?_
      refine S.mv ?_
      refine S.r (Qt.indexB uT cT rfl rfl ow) ?_
      refine S.r (Qt.as (Qt.load rfl (Ld.hashB hz1 k rT ce49 (by rw [zaQ]; omega) ow)) (by rw [zdJ E ow])) ?_
      refine S.r (Qt.indexS uT cT rfl rfl ow) ?_
      refine S.opN rfl (OpV.storeR0 (v := hv (E k)) rfl rfl (zab ce49) (zai _) (by rw [zaf, List.length_append, zah, zbn]; omega) (by rw [Nat.zero_add, zgv _ _ _ _ (by rw [zbn]; omega), zog E ps ow h79]) ?_)
      refine S.nil ?_
      refine TC.region ?_
      refine S.r (Qt.add (b := 1) rfl rfl km) ?_
      refine S.mv ?_
      refine S.nil ?_
      refine ⟨k + 1, ?_, ?_, ⟨?_, (List.forall_mem_cons.2 ⟨rfl, (fun _ h => nomatch h)⟩)⟩, sr⟩
      · show _ ≤ _; omega
      · show _ < _; dsimp only; omega
      repeat (first | exact Out.refl _ _ | refine Out.put rfl ?_ | refine Out.puts rfl ?_ | refine Out.scr ?_ | refine Out.scr' rfl ?_)
    · refine S.nil ?_
      refine S.if_f rfl ?_
      refine TC.skip ?_
      refine TC.region ?_
      refine S.r (Qt.add (b := 1) rfl rfl km) ?_
      refine S.mv ?_
      refine S.nil ?_
      refine ⟨k + 1, ?_, ?_, ⟨?_, (List.forall_mem_cons.2 ⟨rfl, (fun _ h => nomatch h)⟩)⟩, (by dsimp only; rw [← zqF E ps h79]; exact sr)⟩
      · show _ ≤ _; omega
      · show _ < _; dsimp only; omega
      repeat (first | exact Out.refl _ _ | refine Out.put rfl ?_ | refine Out.puts rfl ?_ | refine Out.scr ?_ | refine Out.scr' rfl ?_)
  · refine S.nil ?_
    refine TC.seq ?_
    refine S.if_f rfl ?_
    refine TC.exit ?_
    refine TC.seq ?_
    refine TC.region ?_
    obtain rfl : k = hgt b := by omega
    refine S.r (Qt.field uT rfl ce49 rfl) ?_
    refine S.r (Qt.load rfl (Ld.row (vs := hvl x) (Has.at 5 rfl) rT (by rw [zag]; exact ce49) (zcT x _))) ?_
    refine S.mv ?_
    refine S.r (Qt.sub (b := 1) rfl rfl ow km) ?_
    refine S.mv ?_
    refine S.o (OpV.con0 J170 rfl (fun w hw => zfi x (b - 1) (some ⟨g, 0, none⟩) (hgt b) d (cutP E ps (b - 1) (hgt b) (hgt b)) (zbn ..) ow (zeT hb hb (Nat.le_refl _)) w (by have h := (Rd.take (Rd.blk (Rd.at 0 rfl)) (hgt b * 32)) w hw; rwa [List.take_left' (by rw [zah, zbn])] at h) (hT.at hw)) ?_)
    refine S.r (Qt.extract rfl rfl) ?_
    refine S.r (Qt.extract rfl rfl) ?_
    refine S.opN rfl (OpV.storeV3 (v := hv (_)) rfl rfl (zab ce49) (zai _) (zaf _) ?_)
    refine S.as ?_
    refine S.nil ?_
    refine TC.ret ?_
    refine finQ.ret (RVs.cell rfl (Ld.all hz3 rT (zab ce49)) rv) sn ?_
    exact ⟨rfl, rfl⟩
theorem zjY (E : Nat → H32) (hEm : ∀ w, Tabs 3 1 w [] → Calls prog 55 #[] w (Ret w (.agg (hcs (zbd E)).toArray))) (root x : H32) (a b : Nat) (A : OAd) (c : Nat) (ps : List H32) (hc : ps.length ≤ c) (h : okN a ∧ okN b ∧ b ≤ a) (h2 : ps.length = hgt a) (h3 : zbt x (b - 1) ps = root) (h0 : hgt b = 0) (w0 : World) (hR : Ro w0 [] (SlA A (hcs ps))) (hT : Tabs 3 1 w0 []) :
  Calls prog 109 #[.agg (hvl x ++ [Value.slice A ps.length c]).toArray, hv root, .int .u64 (a : Int), .int .u64 (b : Int)] w0 (Post w0 [] fun v L => v = .tuple #[hv (zbt x (b - 1) (cutP E ps (b - 1) (hgt b) (hgt b))), .nilIface] ∧ L = []) := by
 refine co 95 [.cell 8 49, .tmp 9] func109 ?_
 obtain ⟨ha, hb, hab⟩ := id h
 have hb1 := hb.1
 have hb2 := hb.2
 have hm := zeS hb ha hab
 have h32 := zb0 ha
 have h32b := zb0 hb
 refine gw ?_
 intro b4
 refine gw ?_
 intro b5
 refine gw ?_
 intro b8
 refine gw ?_
 refine S.c0 J169 (fun w hw => zgU a b ha hb w) (gw ?_)
 refine S.qg rfl rfl rfl (Qt.dF (Qt.gt rfl rfl) ow) (gw ?_)
 refine S.r (Qt.load rfl (Ld.one (v := .slice A ps.length c) hz2 oT (zbQ x _))) (gw ?_)
 refine S.r (Qt.dF (Qt.ne rfl rfl) (fun k => k h2)) (gw ?_)
 refine S.r (Qt.load rfl (Ld.row (vs := hvl x) hz2 rT (by rw [zag]; exact ce49) (zcT x _))) (gw ?_)
 refine S.r (Qt.sub (b := 1) rfl rfl ow km) (gw ?_)
 refine S.r (Qt.load rfl (Ld.one (v := .slice A ps.length c) hz2 oT (zbQ x _))) ?_
 refine S.c0 J170 (fun w hw => zfi x (b - 1) A ps.length c ps rfl ow (by rw [h2]; exact zeT hb ha hab) w (Rd.ro hR w hw) (hT.at hw)) (gw ?_)
 intro b13
 refine S.opN rfl (OpV.storeV0 (v := hv (_)) rfl rfl (zab ce49) (zai _) (zaf _) ?_)
 refine gw ?_
 refine S.r (Qt.dF (Qt.neH (a := zbt x (b - 1) ps) (b := root) guard49 uT uT cT rfl rfl) (fun k => k h3)) (gw ?_)
 refine S.c0 J55 (fun w hw => hEm w (hT.at hw)) (gw ?_)
 intro b14
 refine S.opN rfl (OpV.storeV0 (v := .agg (hcs (zbd E)).toArray) rfl rfl (by rw [zav, zah, zaQ]; exact ce140) (zfg _) (by rw [zav, zah, zaQ, List.length_replicate]) ?_)
 refine gw ?_
 refine S.r (Qt.load rfl (Ld.one (v := .slice A ps.length c) (Has.at 4 rfl) oT (zbQ x _))) (gw ?_)
 refine S.r (Qt.slice_hi uT cT rfl rfl ow) ?_
 refine S.cn J64 (fun w hw => zgX A (hgt b) c (ps.take (hgt b)) (by rw [List.length_take]; omega) ow w (by have h := (Rd.take (Rd.ro hR) (hgt b * 32)) w hw; rwa [zd2] at h)) ?_
 rintro v L' ⟨O, d, rfl, rfl⟩
 refine gw ?_
 refine TC.loop (γ := Nat) [72, 73, 16, 74, 75, 76, 77, 78, 79, 80, 81, 82, 83, 84, 85, 86, 71] (fun k => [(71, .int .i64 (k : Int))]) (fun _ => _) (fun k => k ≤ hgt b) (fun k => hgt b - k) (0)
  (Nat.zero_le _) ⟨Out.refl _ _, ag⟩ sr ?_
 rintro k u hk
 refine gw ?_
 refine S.r (Qt.dF (Qt.lt rfl rfl) ow) (gw ?_)
 refine TC.exit (TC.seq (gw ?_))
 refine S.r (Qt.load rfl (Ld.row (vs := hvl x) (Has.at 5 rfl) rT (by rw [zag]; exact ce49) (zcT x _))) (gw ?_)
 refine S.r (Qt.sub (b := 1) rfl rfl ow km) (gw ?_)
 refine S.c0 J170 (fun w hw => zfi x (b - 1) O (hgt b) d (cutP E ps (b - 1) (hgt b) (hgt b)) (zbn ..) ow (zeT hb hb (Nat.le_refl _)) w (by have h := Rd.own (Rd.at 0 rfl) w hw; rwa [show hcs (ps.take (hgt b)) = hcs (cutP E ps (b - 1) (hgt b) (hgt b)) by rw [h0]; rfl] at h) (hT.at hw)) (gw ?_)
 refine S.opN rfl (OpV.storeV3 (v := hv (_)) rfl rfl (zab ce49) (zai _) (zaf _) ?_)
 refine gw ?_
 refine TC.ret ?_
 refine finQ.ret (RVs.cell rfl (Ld.all hz3 rT (zab ce49)) rv) sn ?_
 exact ⟨rfl, rfl⟩
theorem zpm (E : Nat → H32) (hEm : ∀ w, Tabs 3 1 w [] → Calls prog 55 #[] w (Ret w (.agg (hcs (zbd E)).toArray))) (root x : H32) (a b : Nat) (A : OAd) (c : Nat) (ps : List H32) (hc : ps.length ≤ c)  (w0 : World) (hR : Ro w0 [] (SlA A (hcs ps))) (hT : Tabs 3 1 w0 []) : Calls prog 109 #[.agg (hvl x ++ [Value.slice A ps.length c]).toArray, hv root, .int .u64 (a : Int), .int .u64 (b : Int)] w0 (Ret w0 (.tuple #[hv (cutR E root x ps a b).1, errv 73 (cutR E root x ps a b).2])) := by
 by_cases h : okN a ∧ okN b ∧ b ≤ a
 ·by_cases h2 : ps.length = hgt a
  ·by_cases h3 : zbt x (b - 1) ps = root
   ·rw [zrN h h2 h3]
    rcases Nat.eq_zero_or_pos (hgt b) with h0 | h0
    ·exact Calls.ret (zjY E hEm root x a b A c ps hc h h2 h3 h0 w0 hR hT)
    ·exact Calls.ret (zla E hEm root x a b A c ps hc h h2 h3 h0 w0 hR hT)
   ·rw [zrM h h2 h3]; exact Calls.ret (zk9 E root x a b A c ps hc h h2 h3 w0 hR hT)
  ·rw [zrL h h2]; exact Calls.ret (zk8 E root x a b A c ps hc h h2 w0)
 ·rw [zrK h]; exact Calls.ret (zk7 E root x a b A c ps hc h w0)
end Go.Proofs.YtgdjcmehlhebdaaGreatDoor
