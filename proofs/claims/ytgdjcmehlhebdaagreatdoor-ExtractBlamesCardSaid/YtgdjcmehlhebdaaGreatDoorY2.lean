/- Walks: heights, and the root behind a growing step -/
import Derived.Test.YtgdjcmehlhebdaaGreatDoorY1
import Derived.Test.YtgdjcmehlhebdaaGreatDoorP2
import Derived.Lib.SmallJoins
import Derived.Deep.Fields
import Derived.Deep.Slices
import Derived.ChangeSame
import Derived.ChangeSlices
import Derived.Below
import Derived.Carry
set_option maxHeartbeats 25600000
namespace Go.Proofs.YtgdjcmehlhebdaaGreatDoor
open _root_.Go.Proofs.Tryz
open Go.E
set_option maxRecDepth 4000
theorem guard49 : prog.eqGuardType prog.depth 49 = false := by kernel_rfl
theorem zhG {p q r : Prop} (h : ¬ (p ∧ q ∧ r)) : ¬ p ∨ (p ∧ ¬ q) ∨ (p ∧ q ∧ ¬ r) := by
 by_cases hp : p
 ·by_cases hq : q
  ·exact .inr (.inr ⟨hp, hq, fun hr => h ⟨hp, hq, hr⟩⟩)
  ·exact .inr (.inl ⟨hp, hq⟩)
 ·exact .inl hp
theorem zoh (x : Nat) (hx : x < 4294967296) (w0 : World) : Calls prog 103 #[.int .u64 (x : Int)] w0 (Ret w0 (.int .i64 ((za0 x : Nat) : Int))) := by
 refine Calls.ret ?_
 refine co 25 [.tmp 2] func103 ?_
 refine gw ?_
 refine S.r (Qt.dF (Qt.ge (b := 4294967296) rfl rfl) ow) (gw ?_)
 refine S.dec rfl rfl (Qt.ge (b := 65536) rfl rfl) (fun h8 => gw ?_) (fun h8 => gw ?_)
 ·refine S.r (Qt.shrN (s := 16) rfl rfl km) (gw ?_)
  refine S.r (Qt.addi rfl rfl (IntWalk.i64_in _ ow)) (gw ?_)
  refine S.dec rfl rfl (Qt.ge (b := 256) rfl rfl) (fun h14 => gw ?_) (fun h14 => gw ?_)
  ·refine S.r (Qt.shrN (s := 8) rfl rfl km) (gw ?_)
   refine S.r (Qt.addi rfl rfl (IntWalk.i64_in _ ow)) (gw ?_)
   refine S.r (Qt.convert uT uT rfl km) ?_
   refine S.r (Qt.as (Qt.index_str uT rfl rfl (zil _ (by kernel_rfl) ow)) (by rw [zfV ow])) ?_
   refine S.r (Qt.convert uT uT rfl (by have := zaG (i := x) ; have := zaG (i := x / 2 ^ 16); have := zaG (i := x / 2 ^ 8); have := zaG (i := x / 2 ^ 16 / 2 ^ 8); simp only [kmax]; omega)) ?_
   refine S.r (Qt.addi rfl rfl (IntWalk.i64_in _ (by have := zaG (i := x) ; have := zaG (i := x / 2 ^ 16); have := zaG (i := x / 2 ^ 8); have := zaG (i := x / 2 ^ 16 / 2 ^ 8); omega))) (gw ?_)
   refine TC.ret (fR ?_)
   have e8 := zcR (x := x) (n := 16) ow
   have e14 := zcR (x := (x / 2 ^ 16)) (n := 8) ow
   exact ⟨congrArg (Value.int .i64) ow, rfl⟩
  ·refine S.r (Qt.convert uT uT rfl km) ?_
   refine S.r (Qt.as (Qt.index_str uT rfl rfl (zil _ (by kernel_rfl) ow)) (by rw [zfV ow])) ?_
   refine S.r (Qt.convert uT uT rfl (by have := zaG (i := x) ; have := zaG (i := x / 2 ^ 16); have := zaG (i := x / 2 ^ 8); have := zaG (i := x / 2 ^ 16 / 2 ^ 8); simp only [kmax]; omega)) ?_
   refine S.r (Qt.addi rfl rfl (IntWalk.i64_in _ (by have := zaG (i := x) ; have := zaG (i := x / 2 ^ 16); have := zaG (i := x / 2 ^ 8); have := zaG (i := x / 2 ^ 16 / 2 ^ 8); omega))) (gw ?_)
   refine TC.ret (fR ?_)
   have e8 := zcR (x := x) (n := 16) ow
   exact ⟨congrArg (Value.int .i64) ow, rfl⟩
 ·refine S.dec rfl rfl (Qt.ge (b := 256) rfl rfl) (fun h14 => gw ?_) (fun h14 => gw ?_)
  ·refine S.r (Qt.shrN (s := 8) rfl rfl km) (gw ?_)
   refine S.r (Qt.addi rfl rfl (IntWalk.i64_in _ ow)) (gw ?_)
   refine S.r (Qt.convert uT uT rfl km) ?_
   refine S.r (Qt.as (Qt.index_str uT rfl rfl (zil _ (by kernel_rfl) ow)) (by rw [zfV ow])) ?_
   refine S.r (Qt.convert uT uT rfl (by have := zaG (i := x) ; have := zaG (i := x / 2 ^ 16); have := zaG (i := x / 2 ^ 8); have := zaG (i := x / 2 ^ 16 / 2 ^ 8); simp only [kmax]; omega)) ?_
   refine S.r (Qt.addi rfl rfl (IntWalk.i64_in _ (by have := zaG (i := x) ; have := zaG (i := x / 2 ^ 16); have := zaG (i := x / 2 ^ 8); have := zaG (i := x / 2 ^ 16 / 2 ^ 8); omega))) (gw ?_)
   refine TC.ret (fR ?_)
   have e14 := zcR (x := x) (n := 8) ow
   exact ⟨congrArg (Value.int .i64) ow, rfl⟩
  ·refine S.r (Qt.convert uT uT rfl km) ?_
   refine S.r (Qt.as (Qt.index_str uT rfl rfl (zil _ (by kernel_rfl) ow)) (by rw [zfV ow])) ?_
   refine S.r (Qt.convert uT uT rfl (by have := zaG (i := x) ; have := zaG (i := x / 2 ^ 16); have := zaG (i := x / 2 ^ 8); have := zaG (i := x / 2 ^ 16 / 2 ^ 8); simp only [kmax]; omega)) ?_
   refine S.r (Qt.addi rfl rfl (IntWalk.i64_in _ (by have := zaG (i := x) ; have := zaG (i := x / 2 ^ 16); have := zaG (i := x / 2 ^ 8); have := zaG (i := x / 2 ^ 16 / 2 ^ 8); omega))) (gw ?_)
   refine TC.ret (fR ?_)
   exact ⟨congrArg (Value.int .i64) ow, rfl⟩
theorem zdM (n : Nat) (h : okN n) (w0 : World) :
  Calls prog 39 #[.int .u64 (n : Int)] w0 (Post w0 [] fun v L => v = .tuple #[.int .i64 ((hgt n : Nat) : Int), .nilIface] ∧ L = []) := by
 refine co 14 [.tmp 2, .tmp 3] func39 ?_
 obtain ⟨hn1, hn2⟩ := id h
 refine gw ?_
 refine S.r (Qt.dF (Qt.lt (b := 1) rfl rfl) ow) (gw ?_)
 refine S.qg rfl rfl rfl (Qt.dF (Qt.gt (b := 4294967296) rfl rfl) ow) (gw ?_)
 refine S.r (Qt.sub (b := 1) rfl rfl ow km) ?_
 refine S.c0 J103 (fun w hw => (zoh (n - 1) ow w : Calls prog 103 #[.int .u64 ((n - 1 : Nat) : Int)] w (Ret w (.int .i64 ((hgt n : Nat) : Int))))) (gw ?_)
 refine TC.ret (fR ?_)
 exact ⟨rfl, rfl⟩
theorem zfX (n : Nat) (h : okN n) (w0 : World) : Calls prog 39 #[.int .u64 (n : Int)] w0 (Ret w0 (.tuple #[.int .i64 ((hgt n : Nat) : Int), .nilIface])) := Calls.ret (zdM n h w0)
theorem zlQ (n : Nat) (h : ¬ okN n) (w0 : World) : Calls prog 39 #[.int .u64 (n : Int)] w0 (Ret w0 (.tuple #[.int .i64 0, .iface 73 (.int .i64 1)])) := by
 refine Calls.ret ?_
 refine co 14 [.tmp 2, .tmp 3] func39 ?_
 refine gw ?_
 refine S.dec rfl rfl (Qt.lt (b := 1) rfl rfl) (fun h5 => gw ?_) (fun h5 => gw ?_)
 ·refine TC.ret (fR ?_)
  exact ⟨rfl, rfl⟩
 ·refine S.qg rfl rfl rfl (Qt.dT (Qt.gt (b := 4294967296) rfl rfl) (by have := h; unfold okN at this; omega)) (gw ?_)
  refine TC.ret (fR ?_)
  exact ⟨rfl, rfl⟩
theorem Tryz.keyAt : KeyLaw prog 249 zau := Go.E.keyAt underlying249 (by decide) (by decide) rfl rfl underlying3 underlying40 (by kernel_rfl)
theorem zv23 : zeJ prog 49 = some (hv zac) := by kernel_rfl
theorem buildAt (l p : Nat) (w : World) : (Instr.build 249 #[(0, .int .i64 (l : Int)), (1, .int .u64 (p : Int))]).run prog w = .ok (zau (l, p)) w := by kernel_rfl
theorem ztL (E : Nat → H32) (tb mb height l p : Nat) (hh : height ≤ 32) (hp : p < 18446744073709551616) (w0 : World) (hB : Ro w0 [] (Blk tb 243 (zar E height mb))) : Calls prog 166 #[.pointer (some ⟨tb, 0, none⟩), zau (l, p)] w0 (Ret w0 (.bool (decide (okAt height (l, p))))) := by
 refine Calls.ret ?_
 refine co 30 [.tmp 4] func166 ?_
 refine gw ?_
 intro b3
 refine gw ?_
 refine dw ([], []) (gw ?_)
 refine D.qY 2 rfl (Qt.dT (Qt.ge (b := 0) rfl rfl) ow) (gw ?_)
 refine D.decgX (k := 10) rfl (by kernel_rfl) (by kernel_rfl) (by kernel_rfl) rfl rfl rfl (Qt.le rfl rfl) (fun h15 => gw ?_) (fun h15 => gw ?_)
 ·refine D.gY 21 rfl rfl (Qt.sub rfl rfl ow km) ?_
  refine D.gY 22 rfl rfl (Qt.shrN rfl rfl km) ?_
  refine D.decgX (k := 23) rfl (by kernel_rfl) (by kernel_rfl) (by kernel_rfl) rfl rfl rfl (Qt.eq (b := 0) rfl rfl) (fun h28 => gw ?_) (fun h28 => gw ?_)
  ·refine D.fi ?_
   refine TC.ret (fR ?_)
   exact ⟨(congrArg Value.bool (decide_eq_true ((zlO h15).1 h28))).symm, rfl⟩
  ·refine D.fi ?_
   refine TC.ret (fR ?_)
   exact ⟨(congrArg Value.bool (decide_eq_false (fun h => h28 ((zlO h15).2 h)))).symm, rfl⟩
 ·refine D.fi ?_
  refine TC.ret (fR ?_)
  exact ⟨(congrArg Value.bool (decide_eq_false (fun h => h15 h.1))).symm, rfl⟩
theorem zsi (E : Nat → H32) (tb mb height l p : Nat) (hh : height ≤ 32) (h : okAt height (l, p)) (w0 : World) (hB : Ro w0 [] (Blk tb 243 (zar E height mb))) : Calls prog 166 #[.pointer (some ⟨tb, 0, none⟩), zau (l, p)] w0 (Ret w0 (.bool true)) := by
 have hr := ztL E tb mb height l p hh (by have := zgu hh h; omega) w0 hB
 rwa [decide_eq_true h] at hr
theorem zoi (E : Nat → H32) (tb mb height : Nat) (ms : Tm) (l p : Nat) (hl : l ≤ 32) (h : H32) (hlk : Go.E.look (l, p) ms = some h) (w0 : World) (hB : Ro w0 [] (Blk tb 243 (zar E height mb))) (hM : Ro w0 [] (MapA mb zau hv (ms))) :
  Calls prog 135 #[.pointer (some ⟨tb, 0, none⟩), zau (l, p)] w0 (Post w0 [] fun v L => v = hv (getT E ms (l, p)) ∧ L = []) := by
 refine co 25 [.cell 4 49] func135 ?_
 refine gw ?_
 intro b3
 refine gw ?_
 intro b4
 refine gw ?_
 refine dw ([10], [9]) (gw ?_)
 refine D.qY 4 rfl (Qt.load rfl (Ld.all (vs := vl (zau (l, p))) hz1 rT ce249)) ?_
 refine D.qY 5 rfl (Qt.as (v' := .tuple #[hv h, .bool true]) (Qt.lookup_ok (k := (l, p)) uT Tryz.keyAt zv23 rfl rfl (Has.ro hM)) (by rw [hlk]; rfl)) (gw ?_)
 refine D.nN 9 rfl (OpV.alloc zT (fun b5 => (sbk ?_)))
 refine D.oN 10 rfl (OpV.storeV0 (v := hv (h)) rfl rfl (zab ce49) (zai _) (zaf _) (sbk ?_))
 refine gw ?_
 refine D.fi (gw ?_)
 refine S.opN rfl (OpV.storeV1 (v := hv (h)) rfl rfl (zab ce49) (zai _) (zaf _) ?_)
 refine gw ?_
 refine TC.ret ?_
 refine finQ.ret (RVs.cell rfl (Ld.all hz1 rT (zab ce49)) RVs.nil) sn ?_
 exact ⟨congrArg hv (zhD E ms _ hlk).symm, rfl⟩
theorem zoj (E : Nat → H32) (tb mb height : Nat) (ms : Tm) (l p : Nat) (hl : l ≤ 32) (hlk : Go.E.look (l, p) ms = none) (w0 : World) (hB : Ro w0 [] (Blk tb 243 (zar E height mb))) (hM : Ro w0 [] (MapA mb zau hv (ms))) :
  Calls prog 135 #[.pointer (some ⟨tb, 0, none⟩), zau (l, p)] w0 (Post w0 [] fun v L => v = hv (getT E ms (l, p)) ∧ L = []) := by
 refine co 25 [.cell 4 49] func135 ?_
 refine gw ?_
 intro b3
 refine gw ?_
 intro b4
 refine gw ?_
 refine dw ([10], [9]) (gw ?_)
 refine D.qY 4 rfl (Qt.load rfl (Ld.all (vs := vl (zau (l, p))) hz1 rT ce249)) ?_
 refine D.qY 5 rfl (Qt.as (v' := .tuple #[hv zac, .bool false]) (Qt.lookup_ok (k := (l, p)) uT Tryz.keyAt zv23 rfl rfl (Has.ro hM)) (by rw [hlk]; rfl)) (gw ?_)
 refine D.nN 9 rfl (OpV.alloc zT (fun b5 => (sbk ?_)))
 refine D.oN 10 rfl (OpV.storeV0 (v := hv (zac)) rfl rfl (zab ce49) (zai _) (zaf _) (sbk ?_))
 refine gw ?_
 refine D.fi (gw ?_)
 refine dw ([7], []) (gw ?_)
 refine D.qY 5 rfl (Qt.indexB uT cT rfl rfl ow) ?_
 refine D.qY 6 rfl (Qt.load rfl (Ld.treeE (Has.ro hB) l rT ce49 ow rfl)) ?_
 refine D.oN 7 rfl (OpV.storeV1 (v := hv (E l)) rfl rfl (zab ce49) (zai _) (zaf _) (sbk ?_))
 refine D.fi ?_
 refine TC.ret ?_
 refine finQ.ret (RVs.cell rfl (Ld.all hz1 rT (zab ce49)) RVs.nil) sn ?_
 exact ⟨congrArg hv (zhE E ms _ hlk).symm, rfl⟩
theorem zmJ (E : Nat → H32) (tb mb height : Nat) (ms : Tm) (l p : Nat) (hl : l ≤ 32) (w0 : World) (hB : Ro w0 [] (Blk tb 243 (zar E height mb))) (hM : Ro w0 [] (MapA mb zau hv (ms))) : Calls prog 135 #[.pointer (some ⟨tb, 0, none⟩), zau (l, p)] w0 (Ret w0 (hv (getT E ms (l, p)))) := by
 cases hlk : Go.E.look (l, p) ms with
 | none => exact Calls.ret (zoj E tb mb height ms l p hl hlk w0 hB hM)
 | some h => exact Calls.ret (zoi E tb mb height ms l p hl h hlk w0 hB hM)
theorem zlR (E : Nat → H32) (hEm : ∀ w, Tabs 3 1 w [] → Calls prog 55 #[] w (Ret w (.agg (hcs (zbd E)).toArray))) (height : Nat) (hh : height ≤ 32) (w0 : World) (hT : Tabs 3 1 w0 []) :
  Calls prog 67 #[.int .i64 (height : Int)] w0 (Post w0 [] fun v L => ∃ tb mb, v = .tuple #[.pointer (some ⟨tb, 0, none⟩), .nilIface] ∧ L = [Blk tb 243 (zar E height mb), MapA mb zau hv ([])]) := by
 refine co 16 [.tmp 2, .tmp 3] func67 ?_
 refine gw ?_
 refine S.r (Qt.dF (Qt.lt (b := 0) rfl rfl) ow) (gw ?_)
 refine S.qg rfl rfl rfl (Qt.dF (Qt.gt (b := 32) rfl rfl) ow) (gw ?_)
 refine S.o (OpV.makeMap (enc := zau) (encv := hv) (fun mb => ?_))
 refine S.c0 J55 (fun w hw => hEm w (hT.at hw)) ?_
 refine S.r (Qt.as (Qt.buildS (vs := [.int .i64 (height : Int), .map (some mb), .agg (hcs (zbd E)).toArray]) (pls := #[(0, 1), (1, 1), (2, 1056)]) uT (fun w => by kernel_rfl) ze243 rfl ⟨rfl, rfl, (by show some (2, 1056) = some (2, _); rw [zav, zah, zaQ]), trivial⟩ (by simp [zah, zaQ, vl])) (show _ = Value.agg (zar E height mb).toArray by simp [zar, vl])) (gw ?_)
 intro b15
 refine gw ?_
 refine TC.ret (finQ.ret rv sr ?_)
 exact ⟨b15, mb, rfl, rfl⟩
theorem zeU (E : Nat → H32) (tb mb height : Nat) (ms : Tm) (l p : Nat) (ho : okAt height (l, p)) (hh : height ≤ 32) (w0 : World) (hB : Ro w0 [] (Blk tb 243 (zar E height mb))) (hM : Ro w0 [] (MapA mb zau hv (ms))) :
  Calls prog 141 #[.pointer (some ⟨tb, 0, none⟩), .int .i64 (l : Int), .int .u64 (p : Int)] w0 (Post w0 [] fun v L => v = .tuple #[hv (getT E ms (l, p)), .nilIface] ∧ L = []) := by
 refine co 27 [.cell 6 49, .tmp 7] func141 ?_
 refine gw ?_
 intro b6
 refine gw ?_
 refine S.r (Qt.build2 (v := zau (l, p)) (a := .int .i64 ((l : Nat) : Int)) (b := .int .u64 ((p : Nat) : Int)) rfl rfl (buildAt (l) (p))) ?_
 refine S.c0 J166 (fun w hw => zsi E tb mb height l p hh ho w (Rd.ro hB w hw)) (gw ?_)
 refine S.r (Qt.build2 (v := zau (l, p)) (a := .int .i64 ((l : Nat) : Int)) (b := .int .u64 ((p : Nat) : Int)) rfl rfl (buildAt (l) (p))) ?_
 refine S.c0 J135 (fun w hw => zmJ E tb mb height ms l p (zgu hh ho).1 w (Rd.ro hB w hw) (Rd.ro hM w hw)) ?_
 refine S.opN rfl (OpV.storeV0 (v := hv (_)) rfl rfl (zab ce49) (zai _) (zaf _) ?_)
 refine gw ?_
 refine TC.ret ?_
 refine finQ.ret (RVs.cell rfl (Ld.all hz0 rT (zab ce49)) rv) sn ?_
 exact ⟨rfl, rfl⟩
theorem zrO (E : Nat → H32) (tb mb height : Nat) (ms : Tm) (i : Nat) (hh : height ≤ 32) (hi : i < 2 ^ height) (w0 : World) (hB : Ro w0 [] (Blk tb 243 (zar E height mb))) (hM : Ro w0 [] (MapA mb zau hv (ms))) : Calls prog 138 #[.pointer (some ⟨tb, 0, none⟩), .int .u64 (i : Int)] w0 (Ret w0 (.tuple #[hv (getT E ms (0, i)), .nilIface])) := by
 refine Calls.ret ?_
 refine co 11 [.cell 4 49, .tmp 5] func138 ?_
 refine gw ?_
 intro b4
 refine gw ?_
 refine S.c0 J141 (fun w hw => Calls.ret (zeU E tb mb height ms 0 i (ok0 hi) hh w (Rd.ro hB w hw) (Rd.ro hM w hw))) (gw ?_)
 refine S.opN rfl (OpV.storeV0 (v := hv (_)) rfl rfl (zab ce49) (zai _) (zaf _) ?_)
 refine gw ?_
 refine TC.ret ?_
 refine finQ.ret (RVs.cell rfl (Ld.all hz0 rT (zab ce49)) rv) sn ?_
 exact ⟨rfl, rfl⟩
theorem zbc (E : Nat → H32) (tb mb height : Nat) (w0 : World) (hB : Ro w0 [] (Blk tb 243 (zar E height mb))) : Calls prog 80 #[.pointer (some ⟨tb, 0, none⟩)] w0 (Ret w0 (.int .i64 (height : Int))) := by
 refine Calls.ret ?_
 refine co 9 [.tmp 2] func80 ?_
 refine gw ?_
 refine TC.ret (fR ?_)
 exact ⟨rfl, rfl⟩
theorem zol (E : Nat → H32) (tb mb height : Nat) (ms : Tm) (i : Nat) (hh : height ≤ 32) (hi : i < 2 ^ height) (w0 : World) (hB : Ro w0 [] (Blk tb 243 (zar E height mb))) (hM : Ro w0 [] (MapA mb zau hv (ms))) :
  Calls prog 153 #[.pointer (some ⟨tb, 0, none⟩), .int .u64 (i : Int)] w0 (Post w0 [] fun v L => ∃ O d, v = .tuple #[.slice O height d, .nilIface] ∧ L = [OwnA 49 32 O height d (hcs (zcG E ms height i))]) := by
 refine co 39 [.tmp 4, .tmp 5] func153 ?_
 have hi32 := zsh hh hi
 refine TC.ownNil 49 32 (gw ?_)
 refine S.r (Qt.build2 (v := zau (0, i)) (a := .int .i64 ((0 : Nat) : Int)) (b := .int .u64 ((i : Nat) : Int)) rfl rfl (buildAt (0) (i))) ?_
 refine S.c0 J166 (fun w hw => zsi E tb mb height 0 i hh (ok0 hi) w (Rd.ro hB w hw)) (gw ?_)
 refine TC.loop (γ := Nat × OAd × Nat) [24, 25, 7, 26, 27, 28, 29, 30, 31, 32, 33, 34, 35, 36, 6, 37, 23] (fun g => [(23, .int .i64 ((g.1 : Nat) : Int)), (6, .slice g.2.1 g.1 g.2.2)]) (fun g => [OwnA 49 32 g.2.1 g.1 g.2.2 (hcs (zcG E ms g.1 i))]) (fun g => g.1 ≤ height) (fun g => height - g.1) ((0, none, 0))
  (Nat.zero_le _) ⟨Out.refl _ _, ag⟩ sr ?_
 rintro ⟨k, O, d⟩ u hk
 dsimp only at hk
 have hd1 := Nat.div_le_self i (2 ^ k)
 refine gw ?_
 refine S.dec rfl rfl (Qt.lt rfl rfl) (fun h24 => gw ?_) (fun h24 => gw ?_)
 ·refine S.r (Qt.shrN rfl rfl km) ?_
  refine S.r (Qt.xorN (b := 1) rfl rfl km km) ?_
  refine S.r (Qt.build2 (v := zau (k, (i / 2 ^ k) ^^^ 1)) (a := .int .i64 ((k : Nat) : Int)) (b := .int .u64 (((i / 2 ^ k) ^^^ 1 : Nat) : Int)) rfl rfl (buildAt (k) ((i / 2 ^ k) ^^^ 1))) ?_
  refine S.c0 J135 (fun w hw => zmJ E tb mb height ms k ((i / 2 ^ k) ^^^ 1) ow w (Rd.ro hB w hw) (Rd.ro hM w hw)) ?_
  refine S.o (OpV.slice1 (bytes := 32) (v := hv (getT E ms (k, (i / 2 ^ k) ^^^ 1))) uT elem49 (by decide) rfl (zaf _) (fun g35 => ?_))
  refine S.o (OpV.app1 (bytes := 32) (news := hvl (getT E ms (k, (i / 2 ^ k) ^^^ 1))) uT elem49 rfl rfl (Has.blk (cs := hvl (getT E ms (k, (i / 2 ^ k) ^^^ 1))) hz0) (by rw [zag]) (zaw _) (by simp only [maxLen]; omega) ow (fun O' d' => ?_))
  refine gw ?_
  refine ⟨(k + 1, O', d'), ?_, ?_, ⟨?_, ag⟩, (by dsimp only; rw [zmG]; exact sd sr)⟩
  ·show _ ≤ _; dsimp only; omega
  ·show _ < _; dsimp only; omega
  exact outs
 ·refine TC.exit (TC.seq (gw ?_))
  refine TC.ret (finQ.ret rv sr ?_)
  obtain rfl : k = height := by omega
  exact ⟨O, d, rfl, rfl⟩
end Go.Proofs.YtgdjcmehlhebdaaGreatDoor
namespace Go.E
open Go.Joins Go.ChangeShapes Go.WideShapes Go.RowKit Go.Deep
section
variable {H : Type} {enc : TypeId × Value → H} {P : Program} {w : World} {base : Nat} {spare : Nat → Bool} {held : Bool}
end
theorem zdN {z : Int} (h : (Lit.int .u64 z).wf = true) : 0 ≤ z ∧ z ≤ 18446744073709551615 := by
 have := h
 simp [Lit.wf, IntKind.min, IntKind.max, IntKind.signed, IntKind.bits] at this
 constructor <;> omega
theorem zom {z : Int} (h : (Lit.int .i64 z).wf = true) : -9223372036854775808 ≤ z ∧ z ≤ 9223372036854775807 := by
 have := h
 simp [Lit.wf, IntKind.min, IntKind.max, IntKind.signed, IntKind.bits] at this
 constructor <;> omega
theorem zon {w : World} {a : Addr} {v : Value} (h : w.cell? a = some v) : a.block < w.heap.size := by
 refine Decidable.byContradiction fun hn => ?_
 have hg : w.heap[a.block]? = none := Array.getElem?_eq_none ow
 simp [World.cell?, hg] at h
theorem St.below {w w' : World} (h : St w [] [] w') : Below w.heap.size w w' := ⟨h.os, h.tape, h.output, h.size, fun k hk => h.block k hk (fun hn => by cases hn)⟩
end Go.E
namespace Go.Proofs.YtgdjcmehlhebdaaGreatDoor
open _root_.Go.Proofs.Tryz
open Go.E
set_option maxRecDepth 4000
theorem zqH {α : Type} (F : α → H32) (d : α) {s : List α} {k : Nat} (h : k < s.length) : hcs ((s.take k).map F) ++ hvl (F (s.getD k d)) = hcs ((s.take (k + 1)).map F) := by
 have e : s.take (k + 1) = s.take k ++ [s.getD k d] := by
  rw [List.take_succ_eq_append_getElem h]; simp [List.getD, h]
 rw [e, List.map_append, zbg, List.map_singleton, za7, zen, List.append_nil]
end Go.Proofs.YtgdjcmehlhebdaaGreatDoor
namespace Go.E
abbrev Sd := List (Nat × Nat)
def zaq (a : Nat) : Nat → Sd
 | 0 => []
 | k + 1 => if a / 2 ^ k % 2 = 1 then zaq a k ++ [(k, a / 2 ^ k - 1)] else zaq a k
def zan (b : Nat) : Nat → Sd
 | 0 => []
 | k + 1 => if b / 2 ^ k % 2 = 0 then zan b k ++ [(k, b / 2 ^ k + 1)] else zan b k
theorem zb4 {a k : Nat} (h : a / 2 ^ k % 2 = 1) : zaq a (k + 1) = zaq a k ++ [(k, a / 2 ^ k - 1)] := if_pos h
theorem zcp {a k : Nat} (h : ¬ a / 2 ^ k % 2 = 1) : zaq a (k + 1) = zaq a k := if_neg h
theorem zb5 {b k : Nat} (h : b / 2 ^ k % 2 = 0) : zan b (k + 1) = zan b k ++ [(k, b / 2 ^ k + 1)] := if_pos h
theorem zcq {b k : Nat} (h : ¬ b / 2 ^ k % 2 = 0) : zan b (k + 1) = zan b k := if_neg h
theorem zoo {height a k : Nat} (ha : a < 2 ^ height) (hk : k < height) (h : a / 2 ^ k % 2 = 1) : okAt height (k, a / 2 ^ k - 1) := by
 have h1 := zd5 ha (Nat.le_of_lt hk)
 exact ⟨Nat.le_of_lt hk, by show a / 2 ^ k - 1 < 2 ^ (height - k); generalize a / 2 ^ k = n at h1 ⊢; omega⟩
theorem zmK {height b k : Nat} (hb : b < 2 ^ height) (hk : k < height) (h : b / 2 ^ k % 2 = 0) : okAt height (k, b / 2 ^ k + 1) := by
 have h1 := zd5 hb (Nat.le_of_lt hk)
 have h2 := zeQ hk
 refine ⟨Nat.le_of_lt hk, ?_⟩
 show b / 2 ^ k + 1 < 2 ^ (height - k)
 rw [h2] at h1 ⊢
 generalize b / 2 ^ k = n at h h1 ⊢
 generalize 2 ^ (height - (k + 1)) = m at h1 ⊢
 omega
def zta (height first : Nat) (many : Int) : Prop := 1 ≤ many ∧ many ≤ 256 ∧ first + many.toNat ≤ 2 ^ height
instance (height first : Nat) (many : Int) : Decidable (zta height first many) := inferInstanceAs (Decidable (_ ∧ _ ∧ _))
theorem zgw (a : Nat) : ∀ k, (zaq a k).length ≤ k
 | 0 => Nat.le_refl _
 | k + 1 => by
  have := zgw a k
  rw [zaq]; split <;> simp <;> omega
theorem zgx (b : Nat) : ∀ k, (zan b k).length ≤ k
 | 0 => Nat.le_refl _
 | k + 1 => by
  have := zgx b k
  rw [zan]; split <;> simp <;> omega
end Go.E
