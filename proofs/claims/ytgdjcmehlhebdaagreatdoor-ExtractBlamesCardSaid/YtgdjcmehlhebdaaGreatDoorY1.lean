/- Walks: what the functions of the package entrustref02 compute -/
import Derived.Test.YtgdjcmehlhebdaaGreatDoorYZTA
set_option maxHeartbeats 25600000
namespace Go.Proofs.YtgdjcmehlhebdaaGreatDoor
open _root_.Go.Proofs.Tryz
open Go.E
set_option maxRecDepth 4000
theorem zoa (A : OAd) (c : Nat) (b : List UInt8) (w0 : World) (hR : Ro w0 [] (SlA A (zad b))) (hl : b.length ≤ 70368744177664) :
  Calls prog 120 #[.slice A b.length c] w0 (Post w0 [] fun v L => ∃ O d, v = .slice O (padL b).length d ∧ L = [OwnA 5 1 O (padL b).length d (zad (padL b))]) := by
 refine co 45 [.tmp 2] func120 ?_
 have hnl : zaY b.length < 64 := Nat.mod_lt _ (by decide)
 refine gw ?_
 refine S.r (Qt.rem (b := 64) rfl rfl ow) ?_
 refine S.r (Qt.sub (a := 119) rfl rfl ow km) ?_
 refine S.r (Qt.as (Qt.rem (b := 64) rfl rfl ow) (show _ = Value.int .i64 ((zaY b.length : Nat) : Int) from rfl)) (gw ?_)
 refine S.o (OpV.slice0 uT ⟨_, elem5⟩ (fun g5 => ?_))
 refine gw ?_
 refine S.o (OpV.app0 (bytes := 1) (news := zad b) uT elem5 rfl rfl (Has.ro hR) (by rw [zal]; omega) (zaw _) (by simp only [maxLen]; omega) ow (fun O d => ?_))
 refine gw ?_
 refine S.o (OpV.slice1 (bytes := 1) (v := .int .u8 (((128 : UInt8).toNat : Nat) : Int)) uT elem5 (by decide) rfl rfl (fun g7 => ?_))
 refine S.o (OpV.app1 (bytes := 1) (news := zad [128]) uT elem5 rfl rfl (Has.blk hz0) (rfl) (zaw _) (by simp only [maxLen]; omega) ow (fun O' d' => ?_))
 refine gw ?_
 refine TC.loop (γ := Nat × OAd × Nat) [19, 20, 21, 24, 25, 26, 4, 22, 23, 5] (fun g => [(5, .int .i64 ((g.1 : Nat) : Int)), (4, .slice g.2.1 (b.length + 1 + g.1) g.2.2)]) (fun g => [OwnA 5 1 g.2.1 (b.length + 1 + g.1) g.2.2 (zad (padA b g.1))]) (fun g => g.1 ≤ zaY b.length) (fun g => zaY b.length - g.1) ((0, O', d'))
  (Nat.zero_le _) ⟨Out.refl _ _, (List.forall_mem_cons.2 ⟨rfl, (List.forall_mem_cons.2 ⟨(by show Value.slice O' (0 + b.length + 1) d' = Value.slice O' (b.length + 1 + 0) d'; rw [Nat.zero_add]), (fun _ h => nomatch h)⟩)⟩)⟩ ((by dsimp only; rw [← zi7, List.nil_append, Nat.zero_add]; exact sd sr)) ?_
 rintro ⟨j, O, d⟩ u hj
 dsimp only at hj
 refine gw ?_
 refine S.dec rfl rfl (Qt.lt rfl rfl) (fun h21 => gw ?_) (fun h21 => gw ?_)
 ·refine S.o (OpV.slice1 (bytes := 1) (v := .int .u8 (((0 : UInt8).toNat : Nat) : Int)) uT elem5 (by decide) rfl rfl (fun g14 => ?_))
  refine S.o (OpV.app1 (bytes := 1) (news := zad [0]) uT elem5 rfl rfl (Has.blk hz0) (rfl) (zaw _) (by simp only [maxLen]; omega) ow (fun O2 d2 => ?_))
  refine gw ?_
  refine ⟨(j + 1, O2, d2), ?_, ?_, ⟨?_, ag⟩, (by dsimp only; rw [← zi8]; exact sd sr)⟩
  ·show _ ≤ _; dsimp only; omega
  ·show _ < _; dsimp only; omega
  exact outs
 ·refine TC.exit (TC.seq (gw ?_))
  refine S.r (Qt.convert uT uT rfl km) ?_
  refine S.r (Qt.as (Qt.mul (b := 8) rfl rfl km) (by rw [Nat.mul_comm])) ?_
  refine S.as ?_
  refine S.nil (TC.seq (TC.seq (TC.region (S.as ?_))))
  refine S.nil (TC.block ?_)
  obtain rfl : j = zaY b.length := by dsimp only at h21; omega
  refine TC.loop (γ := Nat × OAd × Nat) [31, 32, 35, 36, 37, 38, 39, 40, 41, 42, 43, 4, 33, 34, 7] (fun g => [(7, .int .i64 (7 - (g.1 : Int))), (4, .slice g.2.1 (b.length + 1 + zaY b.length + g.1) g.2.2)]) (fun g => [OwnA 5 1 g.2.1 (b.length + 1 + zaY b.length + g.1) g.2.2 (zad (padB b g.1))]) (fun g => g.1 ≤ 8) (fun g => 8 - g.1) ((0, O, d))
   (Nat.zero_le _) ⟨Out.refl _ _, ag⟩ ((by dsimp only; rw [zi9]; exact sr)) ?_
  rintro ⟨i, O, d⟩ u hi
  dsimp only at hi
  refine gw ?_
  refine S.dec rfl rfl (Qt.gei rfl rfl) (fun h32 => ?_) (fun h32 => ?_)
  ·refine S.nil (S.if_t rfl (TC.skip (TC.seq (TC.block (TC.region (S.mv ?_))))))
   refine S.mv ?_
   refine S.r (Qt.as (Qt.move rfl) (congrArg (Value.int .i64) (show (7 - (i : Int)) = ((7 - i : Nat) : Int) by omega))) ?_
   refine S.r (Qt.mul (a := 8) rfl rfl km) ?_
   refine S.r (Qt.convert uT uT rfl km) ?_
   refine S.r (Qt.as (Qt.shrN rfl rfl km) (by rw [show 8 * (7 - i) = 56 - 8 * i by omega])) ?_
   refine S.r (Qt.toByte uT uT rfl) ?_
   refine S.o (OpV.slice1 (bytes := 1) (v := .int .u8 (((UInt8.ofNat (8 * b.length / 2 ^ (56 - 8 * i))).toNat : Nat) : Int)) uT elem5 (by decide) rfl rfl (fun g28 => ?_))
   refine S.o (OpV.app1 (bytes := 1) (news := zad [UInt8.ofNat (8 * b.length / 2 ^ (56 - 8 * i))]) uT elem5 rfl rfl (Has.blk hz0) (rfl) (zaw _) (by simp only [maxLen]; omega) ow (fun O2 d2 => ?_))
   refine gw ?_
   refine S.r (Qt.subi rfl rfl (IntWalk.i64_in _ ow)) (gw ?_)
   refine ⟨(i + 1, O2, d2), ?_, ?_, ⟨?_, (List.forall_mem_cons.2 ⟨(by show Value.int .i64 (7 - (i : Int) - 1) = Value.int .i64 (7 - ((i + 1 : Nat) : Int)); congr 1; omega), ag⟩)⟩, (by dsimp only; rw [← zja b ow]; exact sd sr)⟩
   ·show _ ≤ _; dsimp only; omega
   ·show _ < _; dsimp only; omega
   exact outs
  ·refine gw ?_
   refine TC.exit (TC.seq (gw ?_))
   refine TC.ret (fin1 sr ?_)
   obtain rfl : i = 8 := by omega
   have e := zcD b
   exact ⟨O, d, by rw [e]; rfl, by rw [e, zlJ b ow]⟩
theorem zgp (s : List W) (A : OAd) (c : Nat) (bl : List UInt8) (ws : List W) (hs : s.length = 8) (hb : bl.length = 64) (hws : ws = zc5 bl 64) (hwl : ws.length = 64) (w0 : World) (hR : Ro w0 [] (SlA A (zad bl))) (hT : Tabs 2 0 w0 []) :
  Calls prog 121 #[.agg (w32s s).toArray, .slice A 64 c] w0 (Post w0 [] fun v L => v = .agg (w32s (zhg s (rnds s ws 64))).toArray ∧ L = []) := by
 refine co 199 [.cell 4 224] func121 ?_
 refine gw ?_
 intro b2
 refine gw ?_
 intro b4
 refine gw ?_
 intro b5
 refine gw ?_
 refine TC.loop (γ := Nat) [23, 24, 27, 28, 7, 29, 30, 33, 34, 35, 36, 37, 38, 39, 40, 41, 42, 43, 44, 45, 46, 47, 31, 32, 48, 49, 50, 51, 52, 53, 54, 55, 8, 9, 56, 57, 58, 59, 60, 61, 62, 63, 10, 64, 65, 66, 67, 68, 69, 70, 71, 11, 72, 73, 74, 75, 76, 77, 78, 79, 80, 81, 82, 83, 84, 85, 86, 25, 26, 6] (fun k => [(6, .int .i64 (k : Int))]) (fun k => [Blk b5 302 (w32s (zby bl k)), Blk b4 224 (List.replicate 8 (.int .u32 0)), Blk b2 224 (w32s s)]) (fun k => k ≤ 64) (fun k => 64 - k) (0)
  ow ⟨Out.refl _ _, ag⟩ ((by rw [zgl]; exact sr)) ?_
 rintro k u hk
 refine gw ?_
 refine S.dec rfl rfl (Qt.lt (b := 64) rfl rfl) (fun h24 => gw ?_) (fun h24 => gw ?_)
 ·refine S.dec rfl rfl (Qt.lt (b := 16) rfl rfl) (fun h28 => gw ?_) (fun h28 => gw ?_)
  ·refine TC.loop (γ := Nat) [29, 30, 33, 34, 35, 36, 37, 38, 39, 40, 41, 42, 43, 44, 45, 46, 47, 31, 32, 7] (fun i => [(7, .int .i64 (i : Int))]) (fun i => [Blk b5 302 (w32s ((zby bl k).set k (znX bl (4 * k) i))), Blk b4 224 (List.replicate 8 (.int .u32 0)), Blk b2 224 (w32s s)]) (fun i => i ≤ 4) (fun i => 4 - i) (0)
    ow ⟨Out.refl _ _, ag⟩ ((by rw [zjd bl ow]; exact sr)) ?_
   rintro i u hi
   refine gw ?_
   refine S.dec rfl rfl (Qt.lt (b := 4) rfl rfl) (fun h30 => gw ?_) (fun h30 => gw ?_)
   ·refine S.draw ([15], []) mixed (sd (sk (sk sn0))) (gw ?_)
    refine D.qY 2 rfl (Qt.indexB uT cT rfl rfl ow) ?_
    refine D.qY 3 rfl (Qt.load rfl (Ld.one hz0 oT (zaA (i := k) (by rw [List.length_set, zaB bl ow]; omega) ow))) ?_
    refine D.qY 4 rfl (Qt.mul32 (q := 256) rfl rfl) (gw ?_)
    refine D.qY 7 rfl (Qt.mul (a := 4) rfl rfl km) (gw ?_)
    refine D.qY 9 rfl (Qt.add rfl rfl km) ?_
    refine D.qY 10 rfl (Qt.index uT cT rfl rfl ow (Has.ro hR) (by rw [zal]; omega)) ?_
    refine D.qY 11 rfl (Qt.load rfl (Ld.sl (Has.ro hR) oT (zi4 (i := 4 * k + i) ow ow))) ?_
    refine D.qY 12 rfl (Qt.u8to32 uT uT rfl) ?_
    refine D.qY 13 rfl (Qt.add32 rfl rfl) ?_
    refine D.qY 14 rfl (Qt.indexB uT cT rfl rfl ow) ?_
    refine D.oN 15 rfl (OpV.storeE0 rfl cw cT rfl rfl (by rw [zao, List.length_set, zaB bl ow]; omega) (by rw [Nat.zero_add, Nat.mul_one, zeN, zqy, zqx _ _ _ _ (by rw [zaB bl ow]; omega)]) (sbk ?_))
    refine D.fi (gw ?_)
    refine ⟨i + 1, ?_, ?_, ⟨?_, ag⟩, sr⟩
    ·show _ ≤ _; omega
    ·show _ < _; dsimp only; omega
    exact outs
   ·refine TC.exit (TC.region (gw ?_))
    refine ⟨k + 1, ?_, ?_, ⟨?_, ag⟩, (by rw [show i = 4 by omega, zkx bl h28]; exact sr)⟩
    ·show _ ≤ _; omega
    ·show _ < _; dsimp only; omega
    exact outs
  ·refine dw ([], []) (gw ?_)
   refine D.qY 1 rfl (Qt.sub (b := 15) rfl rfl ow km) ?_
   refine D.qY 2 rfl (Qt.indexB uT cT rfl rfl ow) ?_
   refine D.qY 3 rfl (Qt.load rfl (Ld.one hz0 oT (zaA (i := k - 15) (by rw [zaB bl ow]; omega) ow))) (gw ?_)
   refine D.qY 5 rfl (Qt.sub (b := 2) rfl rfl ow km) ?_
   refine D.qY 6 rfl (Qt.indexB uT cT rfl rfl ow) ?_
   refine D.qY 7 rfl (Qt.load rfl (Ld.one hz0 oT (zaA (i := k - 2) (by rw [zaB bl ow]; omega) ow))) (gw ?_)
   refine D.fi (gw ?_)
   refine S.c0 J181 (fun w hw => zc1 _ 7 (by decide) (by decide) w) (gw ?_)
   refine S.c0 J181 (fun w hw => zc1 _ 18 (by decide) (by decide) w) ?_
   refine S.r (Qt.xor32 rfl rfl) (gw ?_)
   refine S.r (Qt.shr32 (s := 3) rfl rfl) ?_
   refine S.r (Qt.xor32 rfl rfl) (gw ?_)
   refine S.c0 J181 (fun w hw => zc1 _ 17 (by decide) (by decide) w) (gw ?_)
   refine S.c0 J181 (fun w hw => zc1 _ 19 (by decide) (by decide) w) ?_
   refine S.r (Qt.xor32 rfl rfl) (gw ?_)
   refine S.r (Qt.shr32 (s := 10) rfl rfl) ?_
   refine S.r (Qt.xor32 rfl rfl) (gw ?_)
   refine S.draw ([15], []) mixed (sd (sk (sk sn0))) (gw ?_)
   refine D.qY 2 rfl (Qt.sub (b := 16) rfl rfl ow km) ?_
   refine D.qY 3 rfl (Qt.indexB uT cT rfl rfl ow) ?_
   refine D.qY 4 rfl (Qt.load rfl (Ld.one hz0 oT (zaA (i := k - 16) (by rw [zaB bl ow]; omega) ow))) (gw ?_)
   refine D.qY 6 rfl (Qt.add32 rfl rfl) (gw ?_)
   refine D.qY 8 rfl (Qt.sub (b := 7) rfl rfl ow km) ?_
   refine D.qY 9 rfl (Qt.indexB uT cT rfl rfl ow) ?_
   refine D.qY 10 rfl (Qt.load rfl (Ld.one hz0 oT (zaA (i := k - 7) (by rw [zaB bl ow]; omega) ow))) ?_
   refine D.qY 11 rfl (Qt.add32 rfl rfl) (gw ?_)
   refine D.qY 13 rfl (Qt.add32 rfl rfl) ?_
   refine D.qY 14 rfl (Qt.indexB uT cT rfl rfl ow) ?_
   refine D.oN 15 rfl (OpV.storeE0 rfl cw cT rfl rfl (by rw [zao, zaB bl ow]; omega) (by rw [Nat.zero_add, Nat.mul_one, zeN, zd4 bl ow _ (by rw [zku, if_neg h28, zbZ bl ow, zbZ bl ow, zbZ bl ow, zbZ bl ow]; rfl)]) (sbk ?_))
   refine D.fi (gw ?_)
   refine ⟨k + 1, ?_, ?_, ⟨?_, ag⟩, sr⟩
   ·show _ ≤ _; omega
   ·show _ < _; dsimp only; omega
   exact outs
 ·refine TC.exit (TC.seq (dw ([], []) (gw ?_)))
  refine D.qY 1 rfl (Qt.load rfl (Ld.one hz2 oT (zaA (i := 0) (by rw [hs]; decide) rfl))) (gw ?_)
  refine D.qY 3 rfl (Qt.load rfl (Ld.one hz2 oT (zaA (i := 1) (by rw [hs]; decide) rfl))) ?_
  refine D.qY 4 rfl (Qt.indexB (i := 2) uT cT rfl rfl ow) ?_
  refine D.qY 5 rfl (Qt.load rfl (Ld.one hz2 oT (zaA (i := 2) (by rw [hs]; decide) rfl))) ?_
  refine D.qY 6 rfl (Qt.indexB (i := 3) uT cT rfl rfl ow) ?_
  refine D.qY 7 rfl (Qt.load rfl (Ld.one hz2 oT (zaA (i := 3) (by rw [hs]; decide) rfl))) ?_
  refine D.qY 8 rfl (Qt.indexB (i := 4) uT cT rfl rfl ow) ?_
  refine D.qY 9 rfl (Qt.load rfl (Ld.one hz2 oT (zaA (i := 4) (by rw [hs]; decide) rfl))) ?_
  refine D.qY 10 rfl (Qt.indexB (i := 5) uT cT rfl rfl ow) ?_
  refine D.qY 11 rfl (Qt.load rfl (Ld.one hz2 oT (zaA (i := 5) (by rw [hs]; decide) rfl))) ?_
  refine D.qY 12 rfl (Qt.indexB (i := 6) uT cT rfl rfl ow) ?_
  refine D.qY 13 rfl (Qt.load rfl (Ld.one hz2 oT (zaA (i := 6) (by rw [hs]; decide) rfl))) ?_
  refine D.qY 14 rfl (Qt.indexB (i := 7) uT cT rfl rfl ow) ?_
  refine D.qY 15 rfl (Qt.load rfl (Ld.one hz2 oT (zaA (i := 7) (by rw [hs]; decide) rfl))) (gw ?_)
  refine D.fi ?_
  refine TC.seq (TC.seq (TC.region (S.as ?_)))
  refine S.nil (TC.block ?_)
  have ew : zby bl k = ws := by rw [hws, show k = 64 by omega, zhv]
  rw [ew]
  refine TC.loop (γ := Nat) [103, 104, 107, 108, 109, 110, 111, 112, 113, 114, 115, 116, 117, 118, 119, 120, 121, 122, 123, 124, 125, 126, 127, 128, 129, 130, 131, 132, 133, 21, 134, 135, 136, 137, 138, 139, 140, 141, 142, 143, 144, 145, 146, 147, 148, 149, 150, 151, 152, 153, 22, 154, 19, 155, 18, 156, 17, 157, 158, 159, 16, 160, 15, 161, 14, 162, 13, 163, 164, 165, 12, 105, 106, 20] (fun r => [(20, .int .i64 (r : Int)), (12, .int .u32 (((rnds s ws r).getD 0 0).toNat : Int)), (13, .int .u32 (((rnds s ws r).getD 1 0).toNat : Int)), (14, .int .u32 (((rnds s ws r).getD 2 0).toNat : Int)), (15, .int .u32 (((rnds s ws r).getD 3 0).toNat : Int)), (16, .int .u32 (((rnds s ws r).getD 4 0).toNat : Int)), (17, .int .u32 (((rnds s ws r).getD 5 0).toNat : Int)), (18, .int .u32 (((rnds s ws r).getD 6 0).toNat : Int)), (19, .int .u32 (((rnds s ws r).getD 7 0).toNat : Int))]) (fun r => [Blk b5 302 (w32s ws), Blk b4 224 (List.replicate 8 (.int .u32 0)), Blk b2 224 (w32s s)]) (fun r => r ≤ 64) (fun r => 64 - r) (0)
   ow ⟨Out.refl _ _, ag⟩ sr ?_
  rintro r u hr
  refine gw ?_
  refine S.dec rfl rfl (Qt.lt (b := 64) rfl rfl) (fun h104 => gw ?_) (fun h104 => gw ?_)
  ·refine dw ([], []) (gw ?_)
   refine D.c0 2 rfl J181 (fun w hw => zc1 _ 6 (by decide) (by decide) w) (gw ?_)
   refine D.c0 4 rfl J181 (fun w hw => zc1 _ 11 (by decide) (by decide) w) ?_
   refine D.qY 5 rfl (Qt.xor32 rfl rfl) (gw ?_)
   refine D.c0 7 rfl J181 (fun w hw => zc1 _ 25 (by decide) (by decide) w) ?_
   refine D.qY 8 rfl (Qt.xor32 rfl rfl) ?_
   refine D.qY 9 rfl (Qt.add32 rfl rfl) (gw ?_)
   refine D.qY 12 rfl (Qt.and32 rfl rfl) (gw ?_)
   refine D.qY 14 rfl (Qt.not32 rfl) (gw ?_)
   refine D.qY 16 rfl (Qt.and32 rfl rfl) ?_
   refine D.qY 17 rfl (Qt.xor32 rfl rfl) ?_
   refine D.qY 18 rfl (Qt.add32 rfl rfl) (gw ?_)
   refine D.qY 20 rfl (Qt.indexB uT cT rfl rfl ow) ?_
   refine D.qY 21 rfl (Qt.load rfl (Ld.slB (Has.ro hT.1) oT (zaA (i := r) (by rw [zgk]; omega) ow))) ?_
   refine D.qY 22 rfl (Qt.add32 rfl rfl) (gw ?_)
   refine D.qY 24 rfl (Qt.indexB uT cT rfl rfl ow) ?_
   refine D.qY 25 rfl (Qt.load rfl (Ld.one hz0 oT (zaA (i := r) (by rw [hwl]; omega) ow))) ?_
   refine D.qY 26 rfl (Qt.add32 rfl rfl) (gw ?_)
   refine D.fi (gw ?_)
   refine S.c0 J181 (fun w hw => zc1 _ 2 (by decide) (by decide) w) (gw ?_)
   refine S.c0 J181 (fun w hw => zc1 _ 13 (by decide) (by decide) w) ?_
   refine S.r (Qt.xor32 rfl rfl) (gw ?_)
   refine S.c0 J181 (fun w hw => zc1 _ 22 (by decide) (by decide) w) ?_
   refine S.r (Qt.xor32 rfl rfl) (gw ?_)
   refine S.r (Qt.and32 rfl rfl) (gw ?_)
   refine S.r (Qt.and32 rfl rfl) ?_
   refine S.r (Qt.xor32 rfl rfl) (gw ?_)
   refine S.r (Qt.and32 rfl rfl) ?_
   refine S.r (Qt.xor32 rfl rfl) ?_
   refine S.r (Qt.add32 rfl rfl) (gw ?_)
   refine S.r (Qt.add32 rfl rfl) (gw ?_)
   refine S.r (Qt.add32 rfl rfl) (gw ?_)
   refine ⟨r + 1, ?_, ?_, ⟨?_, ag⟩, sr⟩
   ·show _ ≤ _; omega
   ·show _ < _; dsimp only; omega
   exact outs
  ·refine TC.exit (TC.seq (gw ?_))
   refine S.r (Qt.load rfl (Ld.one hz2 oT (zaA (i := 0) (by rw [hs]; decide) rfl))) (gw ?_)
   refine S.r (Qt.add32 rfl rfl) (gw ?_)
   refine S.r (Qt.load rfl (Ld.one hz2 oT (zaA (i := 1) (by rw [hs]; decide) rfl))) (gw ?_)
   refine S.r (Qt.add32 rfl rfl) ?_
   refine S.r (Qt.indexB (i := 2) uT cT rfl rfl ow) ?_
   refine S.r (Qt.load rfl (Ld.one hz2 oT (zaA (i := 2) (by rw [hs]; decide) rfl))) (gw ?_)
   refine S.r (Qt.add32 rfl rfl) ?_
   refine S.r (Qt.indexB (i := 3) uT cT rfl rfl ow) ?_
   refine S.r (Qt.load rfl (Ld.one hz2 oT (zaA (i := 3) (by rw [hs]; decide) rfl))) (gw ?_)
   refine S.r (Qt.add32 rfl rfl) ?_
   refine S.r (Qt.indexB (i := 4) uT cT rfl rfl ow) ?_
   refine S.r (Qt.load rfl (Ld.one hz2 oT (zaA (i := 4) (by rw [hs]; decide) rfl))) (gw ?_)
   refine S.r (Qt.add32 rfl rfl) ?_
   refine S.r (Qt.indexB (i := 5) uT cT rfl rfl ow) ?_
   refine S.r (Qt.load rfl (Ld.one hz2 oT (zaA (i := 5) (by rw [hs]; decide) rfl))) (gw ?_)
   refine S.r (Qt.add32 rfl rfl) ?_
   refine S.r (Qt.indexB (i := 6) uT cT rfl rfl ow) ?_
   refine S.r (Qt.load rfl (Ld.one hz2 oT (zaA (i := 6) (by rw [hs]; decide) rfl))) (gw ?_)
   refine S.r (Qt.add32 rfl rfl) ?_
   refine S.r (Qt.indexB (i := 7) uT cT rfl rfl ow) ?_
   refine S.r (Qt.load rfl (Ld.one hz2 oT (zaA (i := 7) (by rw [hs]; decide) rfl))) (gw ?_)
   refine S.r (Qt.add32 rfl rfl) ?_
   refine S.r (Qt.build (v := .agg (w32s (zhg s (rnds s ws r))).toArray) rfl (fun _ => by kernel_rfl)) ?_
   refine S.opN rfl (OpV.storeV1 (v := .agg (w32s (zhg s (rnds s ws r))).toArray) rfl rfl (by rw [zav, zao]; exact ce224) (zcw _) (rfl) ?_)
   refine gw ?_
   refine TC.ret ?_
   refine finQ.ret (RVs.cell rfl (Ld.all hz1 rT (by rw [zav, zao]; exact ce224)) RVs.nil) sn ?_
   have e : rnds s ws r = rnds s ws 64 := by rw [show r = 64 by omega]
   rw [← e]
   exact ⟨rfl, rfl⟩
theorem zkA (s : List W) (A : OAd) (c : Nat) (bl : List UInt8) (hs : s.length = 8) (hb : bl.length = 64) (w0 : World) (hR : Ro w0 [] (SlA A (zad bl))) (hT : Tabs 2 0 w0 []) : Calls prog 121 #[.agg (w32s s).toArray, .slice A 64 c] w0 (Ret w0 (.agg (w32s (comp s bl)).toArray)) :=
 Calls.ret ((zgp s A c bl (zc5 bl 64) hs hb rfl (zbD bl 64) w0 hR hT).mono fun e w ⟨v, L, h1, h2, h3, h4⟩ => ⟨v, L, h1, h2, by rw [h3, comp, zmz], h4⟩)
theorem zeR (A : OAd) (c : Nat) (b : List UInt8) (w0 : World) (hR : Ro w0 [] (SlA A (zad b))) (hl : b.length ≤ 70368744177664) (hT : Tabs 2 0 w0 []) :
  Calls prog 57 #[.slice A b.length c] w0 (Post w0 [] fun v L => v = hv (shaH b) ∧ L = []) := by
 refine co 42 [.cell 2 49] func57 ?_
 obtain ⟨m, hm⟩ : ∃ m, (padL b).length = 64 * m := ⟨(padL b).length / 64, by have := zlI b; omega⟩
 have hpl := zcD b
 have hnl : zaY b.length < 64 := Nat.mod_lt _ (by decide)
 refine gw ?_
 intro b2
 refine gw ?_
 refine S.cn J120 (fun w hw => zoa A c b w (Rd.ro hR w hw) hl) ?_
 rintro v L' ⟨O, d, rfl, rfl⟩
 refine TL.fact hz0 (fun _ h => zaL h) (fun hdc => ?_)
 refine gw ?_
 refine S.r (Qt.load rfl (Ld.sl0 (vs := w32s I256) (Has.ro hT.2) rT (by rw [zao, zde]; exact ce224) (by decide) (fun _ _ h => h))) (gw ?_)
 intro b4
 refine S.opN rfl (OpV.storeV0 (v := .agg (w32s I256).toArray) rfl rfl (by rw [zav, zao, zde]; exact ce224) (zcw _) (rfl) ?_)
 refine gw ?_
 refine TC.loop (γ := Nat) [11, 12, 13, 14, 17, 18, 19, 20, 21, 22, 23, 15, 16, 5] (fun k => [(5, .int .i64 ((64 * k : Nat) : Int))]) (fun k => [Blk b4 224 (w32s (zhh (padL b) k)), OwnA 5 1 O (padL b).length d (zad (padL b)), Blk b2 49 (List.replicate 32 (.int .u8 0))]) (fun k => k ≤ m) (fun k => m - k) (0)
  ow ⟨Out.refl _ _, ag⟩ sr ?_
 rintro k u hk
 have hO : ∀ {L : List Assn} {M : List Nat} {P : Program} {n : Nat} {r : Option Nat} w, St w0 M L w → OwnA 5 1 O (padL b).length d (zad (padL b)) ∈ L → Ro w [] (SlA (O.map (·.add (64 * k * 1))) (zad (zfO (padL b) k))) := fun {L M P n r} w hw hm => by
  rw [show zfO (padL b) k = ((padL b).drop (64 * k * 1)).take 64 by rw [Nat.mul_one]; rfl]
  exact Ro.bytesPart (Ro.own (Rd.mem (C := ⟨P, n, w0, M, r⟩) hm w hw)) (64 * k * 1) 64
 refine gw ?_
 refine S.dec rfl rfl (Qt.lt rfl rfl) (fun h14 => gw ?_) (fun h14 => gw ?_)
 ·refine S.draw ([7], []) mixed (sd (sk (sk sn0))) ?_
  refine D.qY 0 rfl (Qt.load rfl (Ld.all hz0 rT (by rw [zao, zcj]; exact ce224))) (gw ?_)
  refine D.qY 4 rfl (Qt.add (b := 64) rfl rfl km) ?_
  refine D.qY 5 rfl (Qt.as (v' := .slice (O.map (·.add (64 * k * 1))) 64 (d - 64 * k)) (Qt.slice_lohi uT cT rfl rfl rfl ow (by have := hdc.1; omega)) (by have := hdc.1; rw [if_neg ow, show 64 * k + 64 - 64 * k = 64 by omega])) ?_
  refine D.c0 6 rfl J121 (fun w hw => zkA _ _ _ (zfO (padL b) k) (zcj _ _) (zcP (m := m) ow hm) w (hO (P := prog) (n := 0) (r := none) w hw (by simp)) (hT.at hw)) ?_
  refine D.oN 7 rfl (OpV.storeV0 (v := .agg (w32s (comp (zhh (padL b) k) (zfO (padL b) k))).toArray) rfl rfl (by rw [zav, zao, zdf]; exact ce224) (zcw _) (by rw [zav, zao, zao, zdf, zcj]) (sbk ?_))
  refine D.fi (gw ?_)
  refine S.r (Qt.add (b := 64) rfl rfl km) (gw ?_)
  refine ⟨k + 1, ?_, ?_, ⟨?_, ag⟩, sr⟩
  ·show _ ≤ _; omega
  ·show _ < _; dsimp only; omega
  exact outs
 ·refine TC.exit (TC.seq (gw ?_))
  intro b6
  refine S.nil (TC.seq (TC.seq (TC.region (S.as ?_))))
  refine S.nil (TC.block ?_)
  obtain ⟨s, hsd⟩ : ∃ s, s = zhh (padL b) k := ⟨_, rfl⟩
  have hs : s.length = 8 := by rw [hsd, zcj]
  rw [← hsd]
  refine TC.loop (γ := Nat) [24, 25, 28, 29, 30, 31, 32, 33, 34, 35, 36, 37, 38, 39, 40, 26, 27, 7] (fun i => [(7, .int .i64 (i : Int))]) (fun i => [Blk b6 49 (zad (outQ s i)), Blk b4 224 (w32s s), Blk b2 49 (List.replicate 32 (.int .u8 0))]) (fun i => i ≤ 32) (fun i => 32 - i) (0)
   ow ⟨Out.refl _ _, ag⟩ ((by rw [znW]; exact sk (sk (sd sr)))) ?_
  rintro i u hi
  refine gw ?_
  refine S.dec rfl rfl (Qt.lt (b := 32) rfl rfl) (fun h25 => gw ?_) (fun h25 => gw ?_)
  ·refine S.r (Qt.quo (b := 4) rfl rfl ow km) ?_
   refine S.r (Qt.indexB uT cT rfl rfl ow) ?_
   refine S.r (Qt.load rfl (Ld.one hz1 oT (zaA (i := i / 4) (by rw [hs]; omega) ow))) (gw ?_)
   refine S.r (Qt.rem (b := 4) rfl rfl ow) ?_
   refine S.r (Qt.mul (a := 8) rfl rfl km) ?_
   refine S.r (Qt.sub (a := 24) rfl rfl ow km) ?_
   refine S.r (Qt.convert uT uT rfl km) ?_
   refine S.r (Qt.shr32 rfl rfl) ?_
   refine S.r (Qt.toByte uT uT rfl) ?_
   refine S.r (Qt.indexB uT cT rfl rfl ow) ?_
   refine S.opN rfl (OpV.storeE0 rfl cw cT rfl rfl (by rw [zal, zcF hs ow]; omega) (by rw [Nat.zero_add, Nat.mul_one, zmw, zqw hs ow]) ?_)
   refine gw ?_
   refine ⟨i + 1, ?_, ?_, ⟨?_, ag⟩, sr⟩
   ·show _ ≤ _; omega
   ·show _ < _; dsimp only; omega
   exact outs
  ·refine TC.exit (TC.seq (gw ?_))
   refine S.r (Qt.load rfl (Ld.all hz0 rT (by rw [zal, zcF hs ow]; exact ce49))) ?_
   refine S.opN rfl (OpV.storeV2 (v := .agg (zad (outQ s i)).toArray) rfl rfl (by rw [zav, zal, zcF hs ow]; exact ce49) (zhx _) (by rw [zav, zal, zcF hs ow]; rfl) ?_)
   refine gw ?_
   refine TC.ret ?_
   refine finQ.ret (RVs.cell rfl (Ld.all hz2 rT (by rw [zav, zal, zcF hs ow]; exact ce49)) RVs.nil) sn ?_
   have hkm : k = m := by omega
   have e : outQ s i = shaL b := by rw [show i = 32 by omega, zqv hs, hsd, hkm, shaL, hm, Nat.mul_div_cancel_left _ (by decide)]
   exact ⟨congrArg (fun l => Value.agg (zad l).toArray) e, rfl⟩
theorem zmD (s : Nat) (w0 : World) :
  Calls prog 201 #[.int .i64 (s : Int)] w0 (Post w0 [] fun v L => v = .bool (decide (s = 1 ∨ s = 2 ∨ s = 4 ∨ s = 8)) ∧ L = []) := by
 refine co 17 [.tmp 2] func201 ?_
 refine gw ?_
 refine S.dec rfl rfl (Qt.eq (b := 1) rfl rfl) (fun h4 => gw ?_) (fun h4 => gw ?_)
 ·refine TC.ret (fR ?_)
  exact ⟨by simp [pack, *], rfl⟩
 ·refine S.decg rfl rfl rfl (Qt.eq (b := 2) rfl rfl) (fun h7 => gw ?_) (fun h7 => gw ?_)
  ·refine TC.ret (fR ?_)
   exact ⟨by simp [pack, *], rfl⟩
  ·refine S.decg rfl rfl rfl (Qt.eq (b := 4) rfl rfl) (fun h11 => gw ?_) (fun h11 => gw ?_)
   ·refine TC.ret (fR ?_)
    exact ⟨by simp [pack, *], rfl⟩
   ·refine S.decg rfl rfl rfl (Qt.eq (b := 8) rfl rfl) (fun h15 => gw ?_) (fun h15 => gw ?_)
    ·refine TC.ret (fR ?_)
     exact ⟨by simp [pack, *], rfl⟩
    ·refine TC.ret (fR ?_)
     exact ⟨by simp [pack, *], rfl⟩
theorem zob (s : Nat) (h : s = 1 ∨ s = 2 ∨ s = 4 ∨ s = 8) (w0 : World) : Calls prog 201 #[.int .i64 (s : Int)] w0 (Ret w0 (.bool true)) :=
 Calls.ret ((zmD s w0).mono fun e w ⟨v, L, h1, h2, h3, h4⟩ => ⟨v, L, h1, h2, by rw [h3, decide_eq_true h], h4⟩)
theorem zd6 (wb : Nat) (A : OAd) (c : Nat) (bs : List UInt8) (n s : Nat) (hs : s = 1 ∨ s = 2 ∨ s = 4 ∨ s = 8) (hn : n < 2 ^ (8 * s)) (hn64 : n < 18446744073709551616) (hb : bs.length ≤ 70368744177664) (w0 : World) (hL : Sat w0 [Blk wb 297 [.nilIface, .slice A bs.length c], OwnA 5 1 A bs.length c (zad bs)]) :
  Calls prog 177 #[.pointer (some ⟨wb, 0, none⟩), .int .u64 (n : Int), .int .i64 (s : Int)] w0 (Post w0 (fps [Blk wb 297 [.nilIface, .slice A bs.length c], OwnA 5 1 A bs.length c (zad bs)]) fun v L => ∃ O d, v = .pointer (some ⟨wb, 0, none⟩) ∧ L = [Blk wb 297 [.nilIface, .slice O (bs ++ numB n s).length d], OwnA 5 1 O (bs ++ numB n s).length d (zad (bs ++ numB n s))]) := by
 refine cof (L := [Blk wb 297 [.nilIface, .slice A bs.length c], OwnA 5 1 A bs.length c (zad bs)]) 51 [.tmp 6] func177 hL ?_
 refine gw ?_
 refine S.c0 J201 (fun w hw => zob s hs w) (gw ?_)
 refine S.decg rfl rfl rfl (Qt.lt (b := 8) rfl rfl) (fun h15 => gw ?_) (fun h15 => gw ?_)
 ·refine S.qg rfl rfl rfl (Qt.mul (a := 8) rfl rfl km) ?_
  refine S.qg rfl rfl rfl (Qt.shrN rfl rfl km) ?_
  refine S.qg rfl rfl rfl (Qt.dF (Qt.ne (b := 0) rfl rfl) (by rw [Nat.div_eq_of_lt hn]; exact fun h => h rfl)) (gw ?_)
  refine S.r (Qt.subi rfl rfl (IntWalk.i64_in _ ow)) (gw ?_)
  refine TC.loop (γ := Nat × OAd × Nat) [32, 33, 36, 37, 38, 39, 40, 41, 42, 43, 44, 45, 46, 47, 48, 49, 34, 35, 7] (fun g => [(7, .int .i64 ((s : Int) - 1 - (g.1 : Int)))]) (fun g => [Blk wb 297 [.nilIface, .slice g.2.1 (bs ++ (numB n s).take g.1).length g.2.2], OwnA 5 1 g.2.1 (bs ++ (numB n s).take g.1).length g.2.2 (zad (bs ++ (numB n s).take g.1))]) (fun g => g.1 ≤ s) (fun g => s - g.1) ((0, A, c))
   (Nat.zero_le _) ⟨Out.refl _ _, (List.forall_mem_cons.2 ⟨(by show Value.int .i64 ((s : Int) - 1) = Value.int .i64 ((s : Int) - 1 - ((0 : Nat) : Int)); congr 1; omega), (fun _ h => nomatch h)⟩)⟩ ((by dsimp only; rw [List.take_zero, List.append_nil]; exact sr)) ?_
  rintro ⟨i, O, d⟩ u hi
  dsimp only at hi
  have hlen : (bs ++ (numB n s).take i).length ≤ bs.length + 8 := by rw [List.length_append, List.length_take, zaC]; omega
  have hlen2 : (bs ++ (numB n s).take (i, O, d).fst).length ≤ bs.length + 8 := hlen
  refine gw ?_
  refine S.dec rfl rfl (Qt.gei rfl rfl) (fun h33 => gw ?_) (fun h33 => gw ?_)
  ·refine dw ([11, 14], [10]) ?_
   refine D.p 0 rfl (Qt.move cw) ?_
   refine D.qY 1 rfl (Qt.move cw) ?_
   refine D.qY 2 rfl (Qt.nilCheck rfl) ?_
   refine D.qY 3 rfl (Qt.field uT rfl ce112 rfl) ?_
   refine D.qY 4 rfl (Qt.load rfl (Ld.one hz0 oT (rfl))) ?_
   refine D.qY 5 rfl (Qt.move cw) ?_
   refine D.qY 6 rfl (Qt.as (Qt.move rfl) (congrArg (Value.int .i64) (show ((s : Int) - 1 - (i : Int)) = ((s - 1 - i : Nat) : Int) by omega))) ?_
   refine D.qY 7 rfl (Qt.mul (a := 8) rfl rfl km) ?_
   refine D.qY 8 rfl (Qt.shrN rfl rfl km) ?_
   refine D.qY 9 rfl (Qt.toByte uT uT rfl) ?_
   refine D.nN 10 rfl (OpV.slice1 (bytes := 1) (v := .int .u8 (((UInt8.ofNat (n / 2 ^ (8 * (s - 1 - i)))).toNat : Nat) : Int)) uT elem5 (by decide) rfl rfl (fun g46 => (sbk ?_)))
   refine D.oS 11 rfl (OpV.app2 (bytes := 1) (news := zad [UInt8.ofNat (n / 2 ^ (8 * (s - 1 - i)))]) uT elem5 rfl rfl (Has.blk hz0) (rfl) (zaw _) (by simp only [maxLen]; omega) ow (fun O2 d2 => (sbk ?_)))
   refine gw ?_
   refine D.oN 14 rfl (OpV.storeC1 rfl cw cT rfl rfl (Nat.le_of_ble_eq_true rfl) (sbk ?_))
   refine D.fi (gw ?_)
   refine S.r (Qt.subi rfl rfl (IntWalk.i64_in _ ow)) (gw ?_)
   refine ⟨(i + 1, O2, d2), ?_, ?_, ⟨?_, (List.forall_mem_cons.2 ⟨(by show Value.int .i64 ((s : Int) - 1 - (i : Int) - 1) = Value.int .i64 ((s : Int) - 1 - ((i + 1 : Nat) : Int)); congr 1; omega), (fun _ h => nomatch h)⟩)⟩, (by dsimp only; rw [zn0 bs n ow, ← zlN bs n ow]; exact sd sr)⟩
   ·show _ ≤ _; dsimp only; omega
   ·show _ < _; dsimp only; omega
   exact outs
  ·refine TC.exit (TC.seq (gw ?_))
   refine TC.ret (fin1 sr ?_)
   have e : (numB n s).take i = numB n s := by rw [show i = s by omega, zlL]
   exact ⟨O, d, rfl, by simp only [e]⟩
 ·refine S.r (Qt.subi rfl rfl (IntWalk.i64_in _ ow)) (gw ?_)
  refine TC.loop (γ := Nat × OAd × Nat) [32, 33, 36, 37, 38, 39, 40, 41, 42, 43, 44, 45, 46, 47, 48, 49, 34, 35, 7] (fun g => [(7, .int .i64 ((s : Int) - 1 - (g.1 : Int)))]) (fun g => [Blk wb 297 [.nilIface, .slice g.2.1 (bs ++ (numB n s).take g.1).length g.2.2], OwnA 5 1 g.2.1 (bs ++ (numB n s).take g.1).length g.2.2 (zad (bs ++ (numB n s).take g.1))]) (fun g => g.1 ≤ s) (fun g => s - g.1) ((0, A, c))
   (Nat.zero_le _) ⟨Out.refl _ _, (List.forall_mem_cons.2 ⟨(by show Value.int .i64 ((s : Int) - 1) = Value.int .i64 ((s : Int) - 1 - ((0 : Nat) : Int)); congr 1; omega), (fun _ h => nomatch h)⟩)⟩ ((by dsimp only; rw [List.take_zero, List.append_nil]; exact sr)) ?_
  rintro ⟨i, O, d⟩ u hi
  dsimp only at hi
  have hlen : (bs ++ (numB n s).take i).length ≤ bs.length + 8 := by rw [List.length_append, List.length_take, zaC]; omega
  have hlen2 : (bs ++ (numB n s).take (i, O, d).fst).length ≤ bs.length + 8 := hlen
  refine gw ?_
  refine S.dec rfl rfl (Qt.gei rfl rfl) (fun h33 => gw ?_) (fun h33 => gw ?_)
  ·refine dw ([11, 14], [10]) ?_
   refine D.p 0 rfl (Qt.move cw) ?_
   refine D.qY 1 rfl (Qt.move cw) ?_
   refine D.qY 2 rfl (Qt.nilCheck rfl) ?_
   refine D.qY 3 rfl (Qt.field uT rfl ce112 rfl) ?_
   refine D.qY 4 rfl (Qt.load rfl (Ld.one hz0 oT (rfl))) ?_
   refine D.qY 5 rfl (Qt.move cw) ?_
   refine D.qY 6 rfl (Qt.as (Qt.move rfl) (congrArg (Value.int .i64) (show ((s : Int) - 1 - (i : Int)) = ((s - 1 - i : Nat) : Int) by omega))) ?_
   refine D.qY 7 rfl (Qt.mul (a := 8) rfl rfl km) ?_
   refine D.qY 8 rfl (Qt.shrN rfl rfl km) ?_
   refine D.qY 9 rfl (Qt.toByte uT uT rfl) ?_
   refine D.nN 10 rfl (OpV.slice1 (bytes := 1) (v := .int .u8 (((UInt8.ofNat (n / 2 ^ (8 * (s - 1 - i)))).toNat : Nat) : Int)) uT elem5 (by decide) rfl rfl (fun g46 => (sbk ?_)))
   refine D.oS 11 rfl (OpV.app2 (bytes := 1) (news := zad [UInt8.ofNat (n / 2 ^ (8 * (s - 1 - i)))]) uT elem5 rfl rfl (Has.blk hz0) (rfl) (zaw _) (by simp only [maxLen]; omega) ow (fun O2 d2 => (sbk ?_)))
   refine gw ?_
   refine D.oN 14 rfl (OpV.storeC1 rfl cw cT rfl rfl (Nat.le_of_ble_eq_true rfl) (sbk ?_))
   refine D.fi (gw ?_)
   refine S.r (Qt.subi rfl rfl (IntWalk.i64_in _ ow)) (gw ?_)
   refine ⟨(i + 1, O2, d2), ?_, ?_, ⟨?_, (List.forall_mem_cons.2 ⟨(by show Value.int .i64 ((s : Int) - 1 - (i : Int) - 1) = Value.int .i64 ((s : Int) - 1 - ((i + 1 : Nat) : Int)); congr 1; omega), (fun _ h => nomatch h)⟩)⟩, (by dsimp only; rw [zn0 bs n ow, ← zlN bs n ow]; exact sd sr)⟩
   ·show _ ≤ _; dsimp only; omega
   ·show _ < _; dsimp only; omega
   exact outs
  ·refine TC.exit (TC.seq (gw ?_))
   refine TC.ret (fin1 sr ?_)
   have e : (numB n s).take i = numB n s := by rw [show i = s by omega, zlL]
   exact ⟨O, d, rfl, by simp only [e]⟩
theorem zfU (wb : Nat) (A : OAd) (c : Nat) (bs : List UInt8) (B : OAd) (d : Nat) (ns : List UInt8) (hb : bs.length ≤ 70368744177664) (hn : ns.length ≤ 70368744177664) (w0 : World) (hL : Sat w0 [Blk wb 297 [.nilIface, .slice A bs.length c], OwnA 5 1 A bs.length c (zad bs)]) (hR : Ro w0 (fps [Blk wb 297 [.nilIface, .slice A bs.length c], OwnA 5 1 A bs.length c (zad bs)]) (SlA B (zad ns))) :
  Calls prog 178 #[.pointer (some ⟨wb, 0, none⟩), .slice B ns.length d] w0 (Post w0 (fps [Blk wb 297 [.nilIface, .slice A bs.length c], OwnA 5 1 A bs.length c (zad bs)]) fun v L => ∃ O d, v = .pointer (some ⟨wb, 0, none⟩) ∧ L = [Blk wb 297 [.nilIface, .slice O (bs ++ ns).length d], OwnA 5 1 O (bs ++ ns).length d (zad (bs ++ ns))]) := by
 refine cof (L := [Blk wb 297 [.nilIface, .slice A bs.length c], OwnA 5 1 A bs.length c (zad bs)]) 17 [.tmp 4] func178 hL ?_
 refine gw ?_
 refine S.o (OpV.app1 (bytes := 1) (news := zad ns) uT elem5 rfl rfl (Has.ro hR) (by rw [zal]; omega) (zaw _) (by simp only [maxLen]; omega) ow (fun O2 d2 => ?_))
 refine gw ?_
 refine S.opN rfl (OpV.storeC0 rfl cw cT rfl rfl (Nat.le_of_ble_eq_true rfl) ?_)
 refine gw ?_
 refine TC.ret (fin1 sr ?_)
 exact ⟨O2, d2, rfl, by rw [List.length_append, za1]; rfl⟩
theorem zhB (wb : Nat) (A : OAd) (c : Nat) (bs : List UInt8) (h : H32) (hb : bs.length ≤ 70368744177664) (w0 : World) (hL : Sat w0 [Blk wb 297 [.nilIface, .slice A bs.length c], OwnA 5 1 A bs.length c (zad bs)]) :
  Calls prog 200 #[.pointer (some ⟨wb, 0, none⟩), hv h] w0 (Post w0 (fps [Blk wb 297 [.nilIface, .slice A bs.length c], OwnA 5 1 A bs.length c (zad bs)]) fun v L => ∃ O d, v = .pointer (some ⟨wb, 0, none⟩) ∧ L = [Blk wb 297 [.nilIface, .slice O (bs ++ h.1).length d], OwnA 5 1 O (bs ++ h.1).length d (zad (bs ++ h.1))]) := by
 refine cof (L := [Blk wb 297 [.nilIface, .slice A bs.length c], OwnA 5 1 A bs.length c (zad bs)]) 8 [.tmp 4] func200 hL ?_
 refine gw ?_
 intro b3
 refine gw ?_
 refine S.r (Qt.as (v' := .slice (some ⟨b3, 0, none⟩) h.1.length 32) (Qt.sliceB_all uT cT rfl) (by rw [h.2])) ?_
 refine S.o (OpV.con (Pre := [Blk wb 297 [.nilIface, .slice A bs.length c], OwnA 5 1 A bs.length c (zad bs)]) (R := _) J178 rfl (pm1.trans (pc pm1)) (fun w hw => zfU wb A c bs (some ⟨b3, 0, none⟩) 32 h.1 hb (by rw [h.2]; decide) w hw.sat.left (Ro.blk (Ro.of_rest (A := Blk b3 49 (hvl h)) hw (List.mem_cons_self ..)))) ?_)
 rintro v L' ⟨O2, d2, rfl, rfl⟩
 refine gw ?_
 refine TC.ret (fin1 (sk (sk sn)) ?_)
 exact ⟨O2, d2, rfl, rfl⟩
theorem zgq (wb : Nat) (A : OAd) (c : Nat) (bs : List UInt8) (hb : bs.length ≤ 70368744177664) (w0 : World) (hW : Ro w0 [] (Blk wb 297 [.nilIface, .slice A bs.length c])) (hO : Ro w0 [] (SlA A (zad bs))) :
  Calls prog 180 #[.pointer (some ⟨wb, 0, none⟩)] w0 (Post w0 [] fun v L => ∃ O d, v = .tuple #[.slice O bs.length d, .nilIface] ∧ L = [OwnA 5 1 O bs.length d (zad bs)]) := by
 refine co 25 [.tmp 2, .tmp 3] func180 ?_
 refine gw ?_
 refine S.cn J197 (fun w hw => zhA A c bs w (Rd.ro hO w hw) hb) ?_
 rintro v L' ⟨O, d, rfl, rfl⟩
 refine gw ?_
 refine TC.ret (finQ.ret rv sr ?_)
 exact ⟨O, d, rfl, rfl⟩
theorem zdi (h : Nat) (h1 : 1 ≤ h) (h2 : h ≤ 32) (l r : H32) (w0 : World) :
  Calls prog 176 #[.int .i64 (h : Int), hv l, hv r] w0 (Post w0 [] fun v L => ∃ O d, v = .tuple #[.slice O (zaM h l r).length d, .nilIface] ∧ L = [OwnA 5 1 O (zaM h l r).length d (zad (zaM h l r))]) := by
 refine co 30 [.tmp 6, .tmp 7] func176 ?_
 refine TC.ownNil 5 1 (gw ?_)
 intro b4
 refine gw ?_
 intro b5
 refine gw ?_
 refine S.r (Qt.dF (Qt.lt (b := 1) rfl rfl) ow) (gw ?_)
 refine S.qg rfl rfl rfl (Qt.dF (Qt.gt (b := 32) rfl rfl) ow) (gw ?_)
 refine S.r (Qt.build (v := .agg #[.nilIface, .slice none 0 0]) rfl (fun _ => by kernel_rfl)) (gw ?_)
 intro b17
 refine gw ?_
 refine S.draw ([1, 4, 6, 8], [9]) mixed (sd (sk (sk (sd sn0)))) (gw ?_)
 refine D.p 3 rfl (Qt.convert uT uT rfl km) (gw ?_)
 refine D.oS 1 rfl (OpV.con (Pre := [Blk b17 297 [.nilIface, .slice none ([] : List UInt8).length 0], OwnA 5 1 none ([] : List UInt8).length 0 (zad ([] : List UInt8))]) (R := _) J177 rfl (pc pm2) (fun w hw => zd6 b17 none 0 [] 2 1 (.inl rfl) (by decide) (by decide) (by decide) w hw.sat.left) ?_)
 rintro v L' ⟨O1, d1, rfl, rfl⟩
 refine sbk ?_
 refine D.oS 4 rfl (OpV.con (Pre := [Blk b17 297 [.nilIface, .slice O1 (([] : List UInt8) ++ numB 2 1).length d1], OwnA 5 1 O1 (([] : List UInt8) ++ numB 2 1).length d1 (zad (([] : List UInt8) ++ numB 2 1))]) (R := _) J177 rfl pr (fun w hw => zd6 b17 O1 d1 _ h 1 (.inl rfl) (by show h < 256; omega) ow (by simp [zaC, l.2, r.2]) w hw.sat.left) ?_)
 rintro v L' ⟨O2, d2, rfl, rfl⟩
 refine sbk ?_
 refine D.oS 6 rfl (OpV.con (Pre := [Blk b17 297 [.nilIface, .slice O2 ((([] : List UInt8) ++ numB 2 1) ++ numB h 1).length d2], OwnA 5 1 O2 ((([] : List UInt8) ++ numB 2 1) ++ numB h 1).length d2 (zad ((([] : List UInt8) ++ numB 2 1) ++ numB h 1))]) (R := _) J200 rfl pr (fun w hw => zhB b17 O2 d2 _ l (by simp [zaC, l.2, r.2]) w hw.sat.left) ?_)
 rintro v L' ⟨O3, d3, rfl, rfl⟩
 refine sbk ?_
 refine D.oS 8 rfl (OpV.con (Pre := [Blk b17 297 [.nilIface, .slice O3 (((([] : List UInt8) ++ numB 2 1) ++ numB h 1) ++ l.1).length d3], OwnA 5 1 O3 (((([] : List UInt8) ++ numB 2 1) ++ numB h 1) ++ l.1).length d3 (zad (((([] : List UInt8) ++ numB 2 1) ++ numB h 1) ++ l.1))]) (R := _) J200 rfl pr (fun w hw => zhB b17 O3 d3 _ r (by simp [zaC, l.2, r.2]) w hw.sat.left) ?_)
 rintro v L' ⟨O4, d4, rfl, rfl⟩
 refine sbk ?_
 refine D.nZ 9 rfl J180 (fun w hw => zgq b17 O4 d4 _ (by simp [zaC, l.2, r.2]) w (Rd.at 0 rfl w hw) (Rd.own (Rd.at 1 rfl) w hw)) ?_
 rintro v L' ⟨O5, d5, rfl, rfl⟩
 refine gw ?_
 refine D.fi ?_
 refine TC.ret (finQ.ret rv (sk sn) ?_)
 have e : ((((([] : List UInt8) ++ numB 2 1) ++ numB h 1) ++ l.1) ++ r.1) = zaM h l r := by rw [zlM, zlM, zaM]; rfl
 rw [e]
 exact ⟨O5, d5, rfl, rfl⟩
theorem zgr (A : OAd) (c : Nat) (b : List UInt8) (w0 : World) (hR : Ro w0 [] (SlA A (zad b))) (hl : b.length ≤ 70368744177664) (hT : Tabs 3 1 w0 []) :
  Calls prog 118 #[.slice A b.length c, .nilIface] w0 (Post w0 [] fun v L => v = .tuple #[hv (shaH b), .nilIface] ∧ L = []) := by
 refine co 12 [.cell 4 49, .tmp 5] func118 ?_
 refine gw ?_
 intro b4
 refine gw ?_
 refine S.c0 J114 (fun w hw => Calls.ret (zdh A c b w (Rd.ro hR w hw) hl (hT.at hw))) ?_
 refine S.opN rfl (OpV.storeV0 (v := hv (shaH b)) rfl rfl (zab ce49) (zai _) (zaf _) ?_)
 refine gw ?_
 refine TC.ret ?_
 refine finQ.ret (RVs.cell rfl (Ld.all hz0 rT (zab ce49)) rv) sn ?_
 exact ⟨rfl, rfl⟩
theorem zhC (h : Nat) (h1 : 1 ≤ h) (h2 : h ≤ 32) (l r : H32) (w0 : World) (hT : Tabs 3 1 w0 []) : Calls prog 117 #[.int .i64 (h : Int), hv l, hv r] w0 (Ret w0 (.tuple #[hv (zbj h l r), .nilIface])) := by
 refine Calls.ret ?_
 refine co 17 [.cell 6 49, .tmp 7] func117 ?_
 refine gw ?_
 intro b4
 refine gw ?_
 intro b5
 refine gw ?_
 intro b6
 refine gw ?_
 refine S.cn J176 (fun w hw => zdi h h1 h2 l r w) ?_
 rintro v L' ⟨O, d, rfl, rfl⟩
 refine gw ?_
 refine S.c0 J118 (fun w hw => Calls.ret (zgr O d (zaM h l r) w (Rd.own (Rd.at 0 rfl) w hw) (by rw [zba]; decide) (hT.at hw))) (gw ?_)
 refine S.opN rfl (OpV.storeV1 (v := hv (zbj h l r)) rfl rfl (zab ce49) (zai _) (zaf _) ?_)
 refine gw ?_
 refine TC.ret ?_
 refine finQ.ret (RVs.cell rfl (Ld.all hz1 rT (zab ce49)) rv) sn ?_
 exact ⟨rfl, rfl⟩
theorem zik (E : Nat → H32) (hE0 : E 0 = shaH [0]) (hE : ∀ h, E (h + 1) = zbj (h + 1) (E h) (E h)) (w0 : World) (hT : Tabs 3 1 w0 []) :
  Calls prog 55 #[] w0 (Post w0 [] fun v L => v = .agg (hcs (zbd E)).toArray ∧ L = []) := by
 refine co 31 [.cell 0 140] func55 ?_
 refine gw ?_
 intro b0
 refine gw ?_
 refine S.o (OpV.slice1 (bytes := 1) (v := .int .u8 (((0 : UInt8).toNat : Nat) : Int)) uT elem5 (by decide) rfl rfl (fun g5 => ?_))
 refine S.c0 J114 (fun w hw => (by rw [hE0]; exact Calls.ret (zdh (some ⟨g5, 0, none⟩) 1 [0] w (Rd.bytesAll (bl := [0]) (Rd.at 0 rfl) w hw) (by decide) (hT.at hw)) : Calls prog 114 #[.slice (some ⟨g5, 0, none⟩) 1 1] w (Ret w (hv (E 0))))) ?_
 refine S.r (Qt.as (v' := .agg (hcs (zdC E 1)).toArray) (Qt.buildArr (vs := [hv (E 0)]) uT cT ze140 rfl (by intro v hv; rw [List.mem_singleton.1 hv]; exact zaf _) (by rw [List.flatMap_singleton, zaf, List.length_replicate]; decide)) (by rw [zn4, List.flatMap_singleton, zie, zag, List.drop_replicate])) (gw ?_)
 intro b1
 refine S.opN rfl (OpV.storeV0 (v := .agg (hcs (zdC E 1)).toArray) rfl rfl (by rw [zav, zah, zbb E ow]; exact ce140) (zfg _) (by rw [zav, zah, zbb E ow, List.length_replicate]) ?_)
 refine gw ?_
 refine TC.loop (γ := Nat) [8, 9, 13, 14, 15, 16, 17, 18, 19, 20, 21, 22, 12, 23, 24, 3, 4, 25, 26, 27, 28, 29, 10, 11, 2] (fun k => [(2, .int .i64 (k : Int))]) (fun k => [Blk b1 140 (hcs (zdC E k)), Blk b0 140 (List.replicate 1056 (.int .u8 0))]) (fun k => 1 ≤ k ∧ k ≤ 33) (fun k => 33 - k) (1)
  ⟨Nat.le_refl _, by omega⟩ ⟨Out.refl _ _, ag⟩ ((sk (sd sr))) ?_
 rintro k u ⟨hk1, hk⟩
 refine gw ?_
 refine S.dec rfl rfl (Qt.lt (b := 33) rfl rfl) (fun h9 => gw ?_) (fun h9 => gw ?_)
 ·refine dw ([14], [13]) (gw ?_)
  refine D.qY 2 rfl (Qt.sub (b := 1) rfl rfl ow km) ?_
  refine D.qY 3 rfl (Qt.indexB uT cT rfl rfl ow) ?_
  refine D.qY 4 rfl (Qt.as (Qt.load rfl (Ld.hashB hz0 (k - 1) rT ce49 (by rw [zbb E ow]; omega) ow)) (by rw [zjh E ow])) (gw ?_)
  refine D.qY 6 rfl (Qt.sub (b := 1) rfl rfl ow km) ?_
  refine D.qY 7 rfl (Qt.indexB uT cT rfl rfl ow) ?_
  refine D.qY 8 rfl (Qt.as (Qt.load rfl (Ld.hashB hz0 (k - 1) rT ce49 (by rw [zbb E ow]; omega) ow)) (by rw [zjh E ow])) ?_
  have hEk : E k = zbj k (E (k - 1)) (E (k - 1)) := by have := hE (k - 1); rwa [show k - 1 + 1 = k by omega] at this
  refine D.c0 9 rfl J117 (fun w hw => (by rw [hEk]; exact zhC k ow ow (E (k - 1)) (E (k - 1)) w (hT.at hw) : Calls prog 117 #[.int .i64 (k : Int), hv (E (k - 1)), hv (E (k - 1))] w (Ret w (.tuple #[hv (E k), .nilIface])))) (gw ?_)
  refine D.nN 13 rfl (OpV.alloc zT (fun b3 => (sbk ?_)))
  refine D.oN 14 rfl (OpV.storeV0 (v := hv (E k)) rfl rfl (zab ce49) (zai _) (zaf _) (sbk ?_))
  refine gw ?_
  refine D.fi (gw ?_)
  refine S.r (Qt.indexB uT cT rfl rfl ow) ?_
  refine S.opN rfl (OpV.storeR1 (v := hv (E k)) rfl rfl (zab ce49) (zai _) (by rw [zaf, zah, zbb E ow]; omega) (by rw [Nat.zero_add, zn1 _ _ _ (by rw [zbb E ow]; omega), zn2 E ow]) ?_)
  refine gw ?_
  refine ⟨k + 1, ?_, ?_, ⟨?_, ag⟩, (sd sr)⟩
  ·exact ⟨by omega, by omega⟩
  ·show _ < _; dsimp only; omega
  exact outs
 ·refine TC.exit (TC.seq (gw ?_))
  refine S.r (Qt.load rfl (Ld.all hz0 rT (by rw [zah, zbb E ow]; exact ce140))) ?_
  refine S.opN rfl (OpV.storeV1 (v := .agg (hcs (zdC E k)).toArray) rfl rfl (by rw [zav, zah, zbb E ow]; exact ce140) (zfg _) (by rw [zav, zah, zbb E ow, List.length_replicate]) ?_)
  refine gw ?_
  refine TC.ret ?_
  refine finQ.ret (RVs.cell rfl (Ld.all hz1 rT (by rw [zav, zah, zbb E ow]; exact ce140)) RVs.nil) sn ?_
  have e : zdC E k = zbd E := by rw [show k = 33 by omega, zn3]
  rw [← e]
  exact ⟨rfl, rfl⟩
theorem zod (w0 : World) (hT : Tabs 3 1 w0 []) : Calls prog 55 #[] w0 (Ret w0 (.agg (hcs (zbd zje)).toArray)) := Calls.ret (zik zje rfl (fun _ => rfl) w0 hT)
theorem zej (h : Nat) (h2 : h ≤ 32) (l r : H32) (w0 : World) :
  Calls prog 126 #[.int .i64 (h : Int), hv l, hv r] w0 (Post w0 [] fun v L => ∃ O d, v = .slice O (zaM h l r).length d ∧ L = [OwnA 5 1 O (zaM h l r).length d (zad (zaM h l r))]) := by
 refine co 16 [.tmp 6] func126 ?_
 refine gw ?_
 intro b4
 refine gw ?_
 intro b5
 refine gw ?_
 refine S.r (Qt.toByte uT uT rfl) ?_
 refine S.o (OpV.sliceLO (vs := zad [2, UInt8.ofNat h]) uT elem5 rfl (by decide) rfl (fun v hv => (zi6 hv)) (fun g10 => ?_))
 refine S.r (Qt.sliceB_all uT cT rfl) ?_
 refine S.o (OpV.app0 (bytes := 1) (news := zad l.1) uT elem5 rfl rfl (Has.blk (cs := hvl l) hz2) (by rw [zal, l.2]) (zaw _) (by simp only [maxLen]; omega) ow (fun O d => ?_))
 refine gw ?_
 refine S.r (Qt.sliceB_all uT cT rfl) ?_
 refine S.o (OpV.app0 (bytes := 1) (news := zad r.1) uT elem5 rfl rfl (Has.blk (cs := hvl r) hz1) (by rw [zal, r.2]) (zaw _) (by simp only [maxLen]; omega) ow (fun O2 d2 => ?_))
 refine gw ?_
 refine TC.ret (fin1 (sk sn) ?_)
 have e : (List.flatMap vl (zad [2, UInt8.ofNat h]) ++ zad l.1 ++ zad r.1) = zad (zaM h l r) := by rw [zaM, za1, za1]; rfl
 rw [e, zba]
 exact ⟨O2, d2, rfl, rfl⟩
end Go.Proofs.YtgdjcmehlhebdaaGreatDoor
