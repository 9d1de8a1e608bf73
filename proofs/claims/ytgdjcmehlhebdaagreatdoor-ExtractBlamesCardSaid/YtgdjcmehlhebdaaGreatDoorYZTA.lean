/- Walks: what the functions of the package sha compute -/
import Derived.Test.YtgdjcmehlhebdaaGreatDoorOI
set_option maxHeartbeats 25600000
namespace Go.Proofs.YtgdjcmehlhebdaaGreatDoor
open _root_.Go.Proofs.Tryz
open Go.E
set_option maxRecDepth 4000
theorem zs8 (x : W) (k : Nat) (h1 : 1 ≤ k) (h2 : k ≤ 31) (w0 : World) : Calls prog 212 #[.int .u32 (x.toNat : Int), .int .i64 (-(k : Int))] w0 (Ret w0 (.int .u32 ((ror x k).toNat : Int))) := by
 refine Calls.ret ?_
 refine co 17 [.tmp 4] func212 ?_
 refine gw ?_
 refine S.r (Qt.convNeg uT uT rfl h1 ow) ?_
 refine S.r (Qt.as (Qt.andN (b := 31) rfl rfl km km) (by rw [zsa h1 h2])) (gw ?_)
 refine S.r (Qt.shl32 rfl rfl ow) (gw ?_)
 refine S.r (Qt.sub (a := 32) rfl rfl ow km) ?_
 refine S.r (Qt.shr32 rfl rfl) ?_
 refine S.r (Qt.or32 rfl rfl) (gw ?_)
 refine TC.ret (fR ?_)
 exact ⟨by rw [zsc x ow]; rfl, rfl⟩
theorem zei (x : W) (k : Nat) (h1 : 1 ≤ k) (h2 : k ≤ 31) (w0 : World) : Calls prog 199 #[.int .u32 (x.toNat : Int), .int .i64 (k : Int)] w0 (Ret w0 (.int .u32 ((ror x k).toNat : Int))) := by
 refine Calls.ret ?_
 refine co 9 [.tmp 4] func199 ?_
 refine gw ?_
 refine S.r (Qt.negi rfl (IntWalk.i64_in _ ow)) ?_
 refine S.c0 J212 (fun w hw => zs8 x k h1 h2 w) (gw ?_)
 refine TC.ret (fR ?_)
 exact ⟨rfl, rfl⟩
theorem zc1 (x : W) (k : Nat) (h1 : 1 ≤ k) (h2 : k ≤ 31) (w0 : World) : Calls prog 181 #[.int .u32 (x.toNat : Int), .int .i64 (k : Int)] w0 (Ret w0 (.int .u32 ((ror x k).toNat : Int))) := by
 refine Calls.ret ?_
 refine co 15 [.tmp 4] func181 ?_
 refine gw ?_
 refine S.r (Qt.convert uT uT rfl km) ?_
 refine S.r (Qt.shr32 rfl rfl) (gw ?_)
 refine S.r (Qt.sub (a := 32) rfl rfl ow km) ?_
 refine S.r (Qt.convert uT uT rfl km) ?_
 refine S.r (Qt.shl32 rfl rfl ow) ?_
 refine S.r (Qt.or32 rfl rfl) (gw ?_)
 refine TC.ret (fR ?_)
 exact ⟨rfl, rfl⟩
theorem zs9 (A : OAd) (c : Nat) (b : List UInt8) (w0 : World) (hR : Ro w0 [] (SlA A (zad b))) (h : b.length = 4) : Calls prog 211 #[.slice A 4 c] w0 (Ret w0 (.int .u32 ((zeO b 0).toNat : Int))) := by
 refine Calls.ret ?_
 refine co 25 [.tmp 2] func211 ?_
 refine gw ?_
 refine dr ([], []) (gw ?_)
 refine D.qY 1 rfl (Qt.index (i := 0) uT cT rfl rfl ow (Has.ro hR) (by rw [zal]; omega)) ?_
 refine D.qY 2 rfl (Qt.load rfl (Ld.sl (Has.ro hR) oT (zi4 ow rfl))) ?_
 refine D.qY 3 rfl (Qt.u8to32 uT uT rfl) ?_
 refine D.qY 4 rfl (Qt.shl32 (s := 24) rfl rfl ow) (gw ?_)
 refine D.qY 6 rfl (Qt.index (i := 1) uT cT rfl rfl ow (Has.ro hR) (by rw [zal]; omega)) ?_
 refine D.qY 7 rfl (Qt.load rfl (Ld.sl (Has.ro hR) oT (zi4 ow rfl))) ?_
 refine D.qY 8 rfl (Qt.u8to32 uT uT rfl) ?_
 refine D.qY 9 rfl (Qt.shl32 (s := 16) rfl rfl ow) ?_
 refine D.qY 10 rfl (Qt.or32 rfl rfl) (gw ?_)
 refine D.qY 12 rfl (Qt.index (i := 2) uT cT rfl rfl ow (Has.ro hR) (by rw [zal]; omega)) ?_
 refine D.qY 13 rfl (Qt.load rfl (Ld.sl (Has.ro hR) oT (zi4 ow rfl))) ?_
 refine D.qY 14 rfl (Qt.u8to32 uT uT rfl) ?_
 refine D.qY 15 rfl (Qt.shl32 (s := 8) rfl rfl ow) ?_
 refine D.qY 16 rfl (Qt.or32 rfl rfl) (gw ?_)
 refine D.qY 18 rfl (Qt.index (i := 3) uT cT rfl rfl ow (Has.ro hR) (by rw [zal]; omega)) ?_
 refine D.qY 19 rfl (Qt.load rfl (Ld.sl (Has.ro hR) oT (zi4 ow rfl))) ?_
 refine D.qY 20 rfl (Qt.u8to32 uT uT rfl) ?_
 refine D.qY 21 rfl (Qt.or32 rfl rfl) (gw ?_)
 refine D.fi ?_
 refine TC.ret (fR ?_)
 exact ⟨rfl, rfl⟩
theorem zqA (bl : List UInt8) (hb : bl.length = 64) (w0 : World) : Calls prog 198 #[.agg (zad bl).toArray] w0 (Ret w0 (.agg (w32s (zc5 bl 64)).toArray)) := by
 refine Calls.ret ?_
 refine co 60 [.cell 2 302] func198 ?_
 refine gw ?_
 intro b1
 refine gw ?_
 intro b2
 refine gw ?_
 intro b3
 refine gw ?_
 refine TC.loop (γ := Nat) [8, 9, 4, 10, 11, 12, 13, 14, 15, 16, 17, 18, 19, 20, 21, 22, 23, 24, 25, 26, 27, 28, 5, 6, 29, 30, 31, 32, 33, 34, 35, 36, 37, 38, 39, 40, 41, 42, 43, 44, 45, 46, 47, 48, 49, 50, 51, 52, 53, 54, 55, 56, 57, 58, 7] (fun k => [(7, .int .i64 (k : Int))]) (fun k => [Blk b3 302 (w32s (zby bl k)), Blk b2 302 (List.replicate 64 (.int .u32 0)), Blk b1 289 (zad bl)]) (fun k => k ≤ 64) (fun k => 64 - k) (0)
  ow ⟨Out.refl _ _, ag⟩ ((by rw [zgl]; exact sr)) ?_
 rintro k u hk
 refine gw ?_
 refine S.dec rfl rfl (Qt.lt (b := 64) rfl rfl) (fun h8 => gw ?_) (fun h8 => gw ?_)
 ·refine S.dec rfl rfl (Qt.lt (b := 16) rfl rfl) (fun h11 => gw ?_) (fun h11 => gw ?_)
  ·refine S.r (Qt.mul (a := 4) rfl rfl km) (gw ?_)
   refine S.r (Qt.mul (a := 4) rfl rfl km) ?_
   refine S.r (Qt.add (b := 4) rfl rfl km) ?_
   refine S.r (Qt.as (v' := .slice (some ⟨b1, 0 + 4 * k * 1, none⟩) 4 (64 - 4 * k)) (Qt.sliceB_lohi uT cT rfl rfl rfl ow ow ow) (by rw [show 4 * k + 4 - 4 * k = 4 by omega])) ?_
   refine S.c0 J211 (fun w hw => zs9 _ _ _ w (Rd.bytesPart (Rd.at 2 rfl) (0 + 4 * k * 1) 4 w hw) (zgm _ _ _ ow)) ?_
   refine S.r (Qt.indexB uT cT rfl rfl ow) ?_
   refine S.opN rfl (OpV.storeE0 rfl cw cT rfl rfl (by rw [zao, zaB bl ow]; omega) (by rw [Nat.zero_add, Nat.mul_one, zeN, zd4 bl ow _ (by rw [znR, zku, if_pos h11]; simp)]) ?_)
   refine gw ?_
   refine TC.exit (TC.region (gw ?_))
   refine ⟨k + 1, ?_, ?_, ⟨?_, ag⟩, sr⟩
   ·show _ ≤ _; omega
   ·show _ < _; dsimp only; omega
   exact outs
  ·refine dw ([], []) (gw ?_)
   refine D.qY 1 rfl (Qt.sub (b := 15) rfl rfl ow km) ?_
   refine D.qY 2 rfl (Qt.indexB uT cT rfl rfl ow) ?_
   refine D.qY 3 rfl (Qt.load rfl (Ld.one hz0 oT (zaA (i := k - 15) (by rw [zaB bl ow]; omega) ow))) (gw ?_)
   refine D.qY 5 rfl (Qt.sub (b := 2) rfl rfl ow km) ?_
   refine D.qY 6 rfl (Qt.indexB uT cT rfl rfl ow) ?_
   refine D.qY 7 rfl (Qt.load rfl (Ld.one hz0 oT (zaA (i := k - 2) (by rw [zaB bl ow]; omega) ow))) (gw ?_)
   refine D.fi ?_
   refine S.draw ([29], []) mixed (sd (sk (sk sn0))) (gw ?_)
   refine D.qY 2 rfl (Qt.sub (b := 16) rfl rfl ow km) ?_
   refine D.qY 3 rfl (Qt.indexB uT cT rfl rfl ow) ?_
   refine D.qY 4 rfl (Qt.load rfl (Ld.one hz0 oT (zaA (i := k - 16) (by rw [zaB bl ow]; omega) ow))) (gw ?_)
   refine D.c0 6 rfl J199 (fun w hw => zei _ 7 (by decide) (by decide) w) (gw ?_)
   refine D.c0 8 rfl J199 (fun w hw => zei _ 18 (by decide) (by decide) w) ?_
   refine D.qY 9 rfl (Qt.xor32 rfl rfl) (gw ?_)
   refine D.qY 11 rfl (Qt.shr32 (s := 3) rfl rfl) ?_
   refine D.qY 12 rfl (Qt.xor32 rfl rfl) ?_
   refine D.qY 13 rfl (Qt.add32 rfl rfl) (gw ?_)
   refine D.qY 15 rfl (Qt.sub (b := 7) rfl rfl ow km) ?_
   refine D.qY 16 rfl (Qt.indexB uT cT rfl rfl ow) ?_
   refine D.qY 17 rfl (Qt.load rfl (Ld.one hz0 oT (zaA (i := k - 7) (by rw [zaB bl ow]; omega) ow))) ?_
   refine D.qY 18 rfl (Qt.add32 rfl rfl) (gw ?_)
   refine D.c0 20 rfl J199 (fun w hw => zei _ 17 (by decide) (by decide) w) (gw ?_)
   refine D.c0 22 rfl J199 (fun w hw => zei _ 19 (by decide) (by decide) w) ?_
   refine D.qY 23 rfl (Qt.xor32 rfl rfl) (gw ?_)
   refine D.qY 25 rfl (Qt.shr32 (s := 10) rfl rfl) ?_
   refine D.qY 26 rfl (Qt.xor32 rfl rfl) ?_
   refine D.qY 27 rfl (Qt.add32 rfl rfl) ?_
   refine D.qY 28 rfl (Qt.indexB uT cT rfl rfl ow) ?_
   refine D.oN 29 rfl (OpV.storeE0 rfl cw cT rfl rfl (by rw [zao, zaB bl ow]; omega) (by rw [Nat.zero_add, Nat.mul_one, zeN, zd4 bl ow _ (by rw [zku, if_neg h11, zbZ bl ow, zbZ bl ow, zbZ bl ow, zbZ bl ow]; rfl)]) (sbk ?_))
   refine D.fi (gw ?_)
   refine ⟨k + 1, ?_, ?_, ⟨?_, ag⟩, sr⟩
   ·show _ ≤ _; omega
   ·show _ < _; dsimp only; omega
   exact outs
 ·refine TC.exit (TC.seq (gw ?_))
  refine S.r (Qt.load rfl (Ld.all hz0 rT (by rw [zao, zaB bl ow]; exact ce302))) ?_
  refine S.opN rfl (OpV.storeV1 (v := .agg (w32s (zby bl k)).toArray) rfl rfl (by rw [zav, zao, zaB bl ow]; exact ce302) (zcw _) (by rw [zav, zao, zaB bl ow]; rfl) ?_)
  refine gw ?_
  refine TC.ret ?_
  refine finQ.ret (RVs.cell rfl (Ld.all hz1 rT (by rw [zav, zao, zaB bl ow]; exact ce302)) RVs.nil) sn ?_
  have e : zby bl k = zc5 bl 64 := by rw [show k = 64 by omega, zhv]
  rw [← e]
  exact ⟨rfl, rfl⟩
theorem zhi (s : List W) (bl : List UInt8) (ws : List W) (hs : s.length = 8) (hb : bl.length = 64) (hws : ws = zc5 bl 64) (hwl : ws.length = 64) (w0 : World) (hT : Tabs 3 1 w0 []) :
  Calls prog 173 #[.agg (w32s s).toArray, .agg (zad bl).toArray] w0 (Post w0 [] fun v L => v = .agg (w32s (zhg (rnds s ws 64) s)).toArray ∧ L = []) := by
 refine co 110 [.cell 4 224] func173 ?_
 refine gw ?_
 intro b2
 refine gw ?_
 intro b3
 refine gw ?_
 intro b4
 refine gw ?_
 refine S.r (Qt.load rfl (Ld.all hz2 rT (by rw [zav, zao, hs]; exact ce224))) (gw ?_)
 intro b5
 refine S.opN rfl (OpV.storeV0 (v := .agg (w32s s).toArray) rfl rfl (by rw [zav, zao, hs]; exact ce224) (zcw _) (by rw [zav, zao, hs]; rfl) ?_)
 refine gw ?_
 refine S.r (Qt.load rfl (Ld.all hz2 rT (by rw [zav, zal, hb]; exact ce289))) ?_
 refine S.c0 J198 (fun w hw => (by rw [hws]; exact zqA bl hb w : Calls prog 198 #[.agg (zad bl).toArray] w (Ret w (.agg (w32s ws).toArray)))) (gw ?_)
 refine TC.loop (γ := Nat) [21, 22, 23, 6, 7, 24, 25, 26, 27, 28, 29, 30, 31, 32, 33, 34, 35, 8, 9, 10, 11, 12, 13, 36, 37, 38, 39, 40, 41, 42, 43, 44, 45, 46, 47, 48, 49, 50, 51, 52, 53, 54, 55, 56, 57, 58, 59, 60, 61, 14, 62, 63, 64, 65, 66, 67, 68, 69, 70, 71, 72, 73, 74, 75, 76, 77, 78, 79, 80, 81, 15, 82, 83, 84, 85, 86, 87, 88, 89, 90, 91, 92, 93, 94, 95, 96, 20] (fun k => [(20, .int .i64 (k : Int))]) (fun k => [Blk b5 224 (w32s (rnds s ws k)), Blk b4 224 (List.replicate 8 (.int .u32 0)), Blk b3 289 (zad bl), Blk b2 224 (w32s s)]) (fun k => k ≤ 64) (fun k => 64 - k) (0)
  ow ⟨Out.refl _ _, ag⟩ sr ?_
 rintro k u hk
 refine gw ?_
 refine S.dec rfl rfl (Qt.lt (b := 64) rfl rfl) (fun h21 => gw ?_) (fun h21 => gw ?_)
 ·refine S.r (Qt.index_agg uT cT plain223 rfl rfl ow (zi3 (by rw [hwl]; omega))) (gw ?_)
  refine dw ([], []) (gw ?_)
  refine D.qY 1 rfl (Qt.load rfl (Ld.one hz0 oT (zaA (i := 0) (by rw [zbm hs]; decide) rfl))) (gw ?_)
  refine D.qY 3 rfl (Qt.load rfl (Ld.one hz0 oT (zaA (i := 1) (by rw [zbm hs]; decide) rfl))) ?_
  refine D.qY 4 rfl (Qt.indexB (i := 2) uT cT rfl rfl ow) ?_
  refine D.qY 5 rfl (Qt.load rfl (Ld.one hz0 oT (zaA (i := 2) (by rw [zbm hs]; decide) rfl))) ?_
  refine D.qY 6 rfl (Qt.indexB (i := 4) uT cT rfl rfl ow) ?_
  refine D.qY 7 rfl (Qt.load rfl (Ld.one hz0 oT (zaA (i := 4) (by rw [zbm hs]; decide) rfl))) ?_
  refine D.qY 8 rfl (Qt.indexB (i := 5) uT cT rfl rfl ow) ?_
  refine D.qY 9 rfl (Qt.load rfl (Ld.one hz0 oT (zaA (i := 5) (by rw [zbm hs]; decide) rfl))) ?_
  refine D.qY 10 rfl (Qt.indexB (i := 6) uT cT rfl rfl ow) ?_
  refine D.qY 11 rfl (Qt.load rfl (Ld.one hz0 oT (zaA (i := 6) (by rw [zbm hs]; decide) rfl))) (gw ?_)
  refine D.fi (gw ?_)
  refine dw ([], []) ?_
  refine D.qY 0 rfl (Qt.indexB (i := 7) uT cT rfl rfl ow) ?_
  refine D.qY 1 rfl (Qt.load rfl (Ld.one hz0 oT (zaA (i := 7) (by rw [zbm hs]; decide) rfl))) (gw ?_)
  refine D.c0 3 rfl J199 (fun w hw => zei _ 6 (by decide) (by decide) w) (gw ?_)
  refine D.c0 5 rfl J199 (fun w hw => zei _ 11 (by decide) (by decide) w) ?_
  refine D.qY 6 rfl (Qt.xor32 rfl rfl) (gw ?_)
  refine D.c0 8 rfl J199 (fun w hw => zei _ 25 (by decide) (by decide) w) ?_
  refine D.qY 9 rfl (Qt.xor32 rfl rfl) ?_
  refine D.qY 10 rfl (Qt.add32 rfl rfl) (gw ?_)
  refine D.qY 13 rfl (Qt.and32 rfl rfl) (gw ?_)
  refine D.qY 15 rfl (Qt.not32 rfl) (gw ?_)
  refine D.qY 17 rfl (Qt.and32 rfl rfl) ?_
  refine D.qY 18 rfl (Qt.xor32 rfl rfl) ?_
  refine D.qY 19 rfl (Qt.add32 rfl rfl) (gw ?_)
  refine D.qY 21 rfl (Qt.indexB uT cT rfl rfl ow) ?_
  refine D.qY 22 rfl (Qt.load rfl (Ld.slB (Has.ro hT.1) oT (zaA (i := k) (by rw [zgk]; omega) ow))) ?_
  refine D.qY 23 rfl (Qt.add32 rfl rfl) (gw ?_)
  refine D.qY 25 rfl (Qt.add32 rfl rfl) (gw ?_)
  refine D.fi (gw ?_)
  refine S.c0 J199 (fun w hw => zei _ 2 (by decide) (by decide) w) (gw ?_)
  refine S.c0 J199 (fun w hw => zei _ 13 (by decide) (by decide) w) ?_
  refine S.r (Qt.xor32 rfl rfl) (gw ?_)
  refine S.c0 J199 (fun w hw => zei _ 22 (by decide) (by decide) w) ?_
  refine S.r (Qt.xor32 rfl rfl) (gw ?_)
  refine S.r (Qt.and32 rfl rfl) (gw ?_)
  refine S.r (Qt.and32 rfl rfl) ?_
  refine S.r (Qt.xor32 rfl rfl) (gw ?_)
  refine S.r (Qt.and32 rfl rfl) ?_
  refine S.r (Qt.xor32 rfl rfl) ?_
  refine S.r (Qt.add32 rfl rfl) (gw ?_)
  refine S.r (Qt.add32 rfl rfl) (gw ?_)
  refine S.r (Qt.indexB (i := 3) uT cT rfl rfl ow) ?_
  refine S.r (Qt.load rfl (Ld.one hz0 oT (zaA (i := 3) (by rw [zbm hs]; decide) rfl))) (gw ?_)
  refine S.r (Qt.add32 rfl rfl) (gw ?_)
  refine S.r (Qt.build (v := .agg (w32s (rnd (rnds s ws k) (K256.getD k 0) (ws.getD k 0))).toArray) rfl (fun _ => by kernel_rfl)) ?_
  refine S.opN rfl (OpV.storeV0 (v := .agg (w32s (rnd (rnds s ws k) (K256.getD k 0) (ws.getD k 0))).toArray) rfl rfl (by rw [zav, zao, zhw]; exact ce224) (zcw _) (by rw [zav, zao, zao, zhw, zbm hs]) ?_)
  refine gw ?_
  refine ⟨k + 1, ?_, ?_, ⟨?_, ag⟩, sr⟩
  ·show _ ≤ _; omega
  ·show _ < _; dsimp only; omega
  exact outs
 ·refine TC.exit (TC.seq (gw ?_))
  refine TC.loop (γ := Nat) [98, 99, 16, 100, 101, 102, 103, 104, 105, 106, 107, 108, 97] (fun j => [(97, .int .i64 (j : Int))]) (fun j => [Blk b5 224 (w32s (addP (rnds s ws k) s j)), Blk b4 224 (List.replicate 8 (.int .u32 0)), Blk b3 289 (zad bl), Blk b2 224 (w32s s)]) (fun j => j ≤ 8) (fun j => 8 - j) (0)
   ow ⟨Out.refl _ _, ag⟩ ((by rw [znS _ (zbm hs _ _)]; exact sr)) ?_
  rintro j u hj
  refine gw ?_
  refine S.dec rfl rfl (Qt.lt (b := 8) rfl rfl) (fun h98 => gw ?_) (fun h98 => gw ?_)
  ·refine S.draw ([8], []) mixed (sd (sk (sk (sk sn0)))) (gw ?_)
   refine D.qY 1 rfl (Qt.indexB uT cT rfl rfl ow) ?_
   refine D.qY 2 rfl (Qt.load rfl (Ld.one hz0 oT (zaA (i := j) (by rw [zbE]; omega) ow))) (gw ?_)
   refine D.qY 4 rfl (Qt.indexB uT cT rfl rfl ow) ?_
   refine D.qY 5 rfl (Qt.load rfl (Ld.one hz3 oT (zaA (i := j) (by rw [hs]; omega) ow))) ?_
   refine D.qY 6 rfl (Qt.add32 rfl rfl) ?_
   refine D.qY 7 rfl (Qt.indexB uT cT rfl rfl ow) ?_
   refine D.oN 8 rfl (OpV.storeE0 rfl cw cT rfl rfl (by rw [zao, zbE]; omega) (by rw [Nat.zero_add, Nat.mul_one, zqp _ _ ow, zeN, zqq _ _ ow]) (sbk ?_))
   refine D.fi (gw ?_)
   refine ⟨j + 1, ?_, ?_, ⟨?_, ag⟩, sr⟩
   ·show _ ≤ _; omega
   ·show _ < _; dsimp only; omega
   exact outs
  ·refine TC.exit (TC.seq (gw ?_))
   refine S.r (Qt.load rfl (Ld.all hz0 rT (by rw [zao, zbE]; exact ce224))) ?_
   refine S.opN rfl (OpV.storeV1 (v := .agg (w32s (addP (rnds s ws k) s j)).toArray) rfl rfl (by rw [zav, zao, zbE]; exact ce224) (zcw _) (by rw [zav, zao, zbE]; rfl) ?_)
   refine gw ?_
   refine TC.ret ?_
   refine finQ.ret (RVs.cell rfl (Ld.all hz1 rT (by rw [zav, zao, zbE]; exact ce224)) RVs.nil) sn ?_
   have e : addP (rnds s ws k) s j = zhg (rnds s ws 64) s := by rw [show j = 8 by omega, show k = 64 by omega, zqr]
   rw [← e]
   exact ⟨rfl, rfl⟩
theorem zmB (s : List W) (bl : List UInt8) (hs : s.length = 8) (hb : bl.length = 64) (w0 : World) (hT : Tabs 3 1 w0 []) : Calls prog 173 #[.agg (w32s s).toArray, .agg (zad bl).toArray] w0 (Ret w0 (.agg (w32s (comp s bl)).toArray)) :=
 Calls.ret (zhi s bl (zc5 bl 64) hs hb rfl (zbD bl 64) w0 hT)
theorem zhA (A : OAd) (c : Nat) (b : List UInt8) (w0 : World) (hR : Ro w0 [] (SlA A (zad b))) (hl : b.length ≤ 70368744177664) :
  Calls prog 197 #[.slice A b.length c] w0 (Post w0 [] fun v L => ∃ O d, v = .slice O b.length d ∧ L = [OwnA 5 1 O b.length d (zad b)]) := by
 refine co 8 [.tmp 2] func197 ?_
 refine TC.ownNil 5 1 (gw ?_)
 refine S.r (Qt.eqsl uT rfl) (gw ?_)
 refine TC.ifb rfl (fun hn => gw ?_) (fun hn => gw ?_)
 ·refine TC.ret (fin1 sr ?_)
  obtain rfl : A = none := Option.isNone_iff_eq_none.1 hn
  obtain rfl : b = [] := zhy (SlA.none_nil hR.1)
  exact ⟨none, 0, rfl, rfl⟩
 ·refine S.o (OpV.slice0 uT ⟨_, elem5⟩ (fun g5 => ?_))
  refine gw ?_
  refine S.o (OpV.app0 (bytes := 1) (news := zad b) uT elem5 rfl rfl (Has.ro hR) (by rw [zal]; omega) (zaw _) (by simp only [maxLen]; omega) ow (fun O d => ?_))
  refine gw ?_
  refine TC.ret (fin1 (sk (sd sn)) ?_)
  exact ⟨O, d, by rw [Nat.zero_add]; rfl, by rw [Nat.zero_add, List.nil_append]⟩
theorem zqB (A : OAd) (c : Nat) (b : List UInt8) (w0 : World) (hR : Ro w0 [] (SlA A (zad b))) (hl : b.length ≤ 70368744177664) :
  Calls prog 172 #[.slice A b.length c] w0 (Post w0 [] fun v L => ∃ O d, v = .slice O (padL b).length d ∧ L = [OwnA 5 1 O (padL b).length d (zad (padL b))]) := by
 refine co 31 [.tmp 2] func172 ?_
 refine gw ?_
 refine S.cn J197 (fun w hw => zhA A c b w (Rd.ro hR w hw) hl) ?_
 rintro v L' ⟨O, d, rfl, rfl⟩
 refine S.o (OpV.slice1 (bytes := 1) (v := .int .u8 (((128 : UInt8).toNat : Nat) : Int)) uT elem5 (by decide) rfl rfl (fun g7 => ?_))
 refine S.o (OpV.app1 (bytes := 1) (news := zad [128]) uT elem5 rfl rfl (Has.blk hz0) (rfl) (zaw _) (by simp only [maxLen]; omega) ow (fun O' d' => ?_))
 have hnl : zaY b.length < 64 := Nat.mod_lt _ (by decide)
 refine gw ?_
 refine TC.loop (γ := Nat × OAd × Nat) [9, 10, 11, 12, 13, 14, 15, 3] (fun g => [(3, .slice g.2.1 (b.length + 1 + g.1) g.2.2)]) (fun g => [OwnA 5 1 g.2.1 (b.length + 1 + g.1) g.2.2 (zad (padA b g.1))]) (fun g => g.1 ≤ zaY b.length) (fun g => zaY b.length - g.1) ((0, O', d'))
  (Nat.zero_le _) ⟨Out.refl _ _, ag⟩ ((by dsimp only; rw [← zi7]; exact sd sr)) ?_
 rintro ⟨j, O, d⟩ u hj
 dsimp only at hj
 refine gw ?_
 refine S.r (Qt.rem (b := 64) rfl rfl ow) ?_
 refine S.dec rfl rfl (Qt.ne (b := 56) rfl rfl) (fun h12 => gw ?_) (fun h12 => gw ?_)
 ·refine S.o (OpV.slice1 (bytes := 1) (v := .int .u8 (((0 : UInt8).toNat : Nat) : Int)) uT elem5 (by decide) rfl rfl (fun g14 => ?_))
  refine S.o (OpV.app1 (bytes := 1) (news := zad [0]) uT elem5 rfl rfl (Has.blk hz0) (rfl) (zaw _) (by simp only [maxLen]; omega) ow (fun O2 d2 => ?_))
  refine gw ?_
  refine ⟨(j + 1, O2, d2), ?_, ?_, ⟨?_, ag⟩, (by dsimp only; rw [← zi8]; exact sd sr)⟩
  ·have := zgn hj h12
   show _ ≤ _; dsimp only; omega
  ·have := zgn hj h12
   show _ < _; dsimp only; omega
  exact outs
 ·refine TC.exit (TC.seq (TC.seq (TC.region (S.as ?_))))
  refine S.nil (TC.block ?_)
  obtain rfl := zmy hj (Decidable.byContradiction h12)
  refine TC.loop (γ := Nat × OAd × Nat) [16, 17, 20, 21, 22, 23, 24, 25, 26, 27, 28, 29, 3, 18, 19, 4] (fun g => [(4, .int .i64 (56 - 8 * (g.1 : Int))), (3, .slice g.2.1 (b.length + 1 + zaY b.length + g.1) g.2.2)]) (fun g => [OwnA 5 1 g.2.1 (b.length + 1 + zaY b.length + g.1) g.2.2 (zad (padB b g.1))]) (fun g => g.1 ≤ 8) (fun g => 8 - g.1) ((0, O, d))
   (Nat.zero_le _) ⟨Out.refl _ _, ag⟩ ((by dsimp only; rw [zi9]; exact sr)) ?_
  rintro ⟨i, O, d⟩ u hi
  dsimp only at hi
  refine gw ?_
  refine S.dec rfl rfl (Qt.gei rfl rfl) (fun h17 => gw ?_) (fun h17 => gw ?_)
  ·refine S.r (Qt.convert uT uT rfl km) ?_
   refine S.r (Qt.mul (a := 8) rfl rfl km) ?_
   refine S.r (Qt.as (Qt.move rfl) (congrArg (Value.int .i64) (show (56 - 8 * (i : Int)) = ((56 - 8 * i : Nat) : Int) by omega))) ?_
   refine S.r (Qt.shrN rfl rfl km) ?_
   refine S.r (Qt.toByte uT uT rfl) ?_
   refine S.o (OpV.slice1 (bytes := 1) (v := .int .u8 (((UInt8.ofNat (8 * b.length / 2 ^ (56 - 8 * i))).toNat : Nat) : Int)) uT elem5 (by decide) rfl rfl (fun g28 => ?_))
   refine S.o (OpV.app1 (bytes := 1) (news := zad [UInt8.ofNat (8 * b.length / 2 ^ (56 - 8 * i))]) uT elem5 rfl rfl (Has.blk hz0) (rfl) (zaw _) (by simp only [maxLen]; omega) ow (fun O2 d2 => ?_))
   refine gw ?_
   refine S.r (Qt.subi rfl rfl (IntWalk.i64_in _ ow)) (gw ?_)
   refine ⟨(i + 1, O2, d2), ?_, ?_, ⟨?_, (List.forall_mem_cons.2 ⟨(by show Value.int .i64 (56 - 8 * (i : Int) - 8) = Value.int .i64 (56 - 8 * ((i + 1 : Nat) : Int)); congr 1; omega), ag⟩)⟩, (by dsimp only; rw [← zja b ow]; exact sd sr)⟩
   ·show _ ≤ _; dsimp only; omega
   ·show _ < _; dsimp only; omega
   exact outs
  ·refine TC.exit (TC.seq (gw ?_))
   refine TC.ret (fin1 sr ?_)
   obtain rfl : i = 8 := by omega
   have e := zcD b
   exact ⟨O, d, by rw [e]; rfl, by rw [e, zlJ b ow]⟩
theorem zmC (A : OAd) (N c n : Nat) (hn : 1 ≤ n) (w0 : World) :
  Calls prog 171 #[.slice A N c, .int .i64 (n : Int)] w0 (Post w0 [] fun v L => ∃ b2 b3, v = .func (.func 196) #[] #[.pointer (some ⟨b2, 0, none⟩), .pointer (some ⟨b3, 0, none⟩)] ∧ L = [Blk b3 3 [.int .i64 (n : Int)], Blk b2 112 [.slice A N c]]) := by
 refine co 9 [.tmp 4] func171 ?_
 refine gw ?_
 intro b2
 refine gw ?_
 intro b3
 refine gw ?_
 refine S.r (Qt.dF (Qt.lt (b := 1) rfl rfl) ow) (gw ?_)
 refine S.r (Qt.makeFuncL (fs := []) (cs := [.pointer (some ⟨b2, 0, none⟩), .pointer (some ⟨b3, 0, none⟩)]) rfl rfl) (gw ?_)
 refine TC.ret (fin1 sr ?_)
 exact ⟨_, _, rfl, rfl⟩
theorem zkz (A : OAd) (m c n : Nat) (hn : 1 ≤ n) (hc : n * m ≤ c) (hc2 : c ≤ 9223372036854775807) (b2 b3 l : Nat) (J : Bool → List (Fin m) → List Assn → Prop) (w0 : World) (L0 : List Assn) (h0 : Sat w0 L0) (hJ : J true [] L0) (hB2 : Ro w0 (fps L0) (Blk b2 112 [.slice A (n * m) c])) (hB3 : Ro w0 (fps L0) (Blk b3 3 [.int .i64 (n : Int)]))
  (hY : ∀ pre x w' L', J true pre L' → St w0 (fps L0) L' w' → YieldAt Fence.wide 0 prog l ((fun i : Fin m => [.slice (A.map (·.add (n * i.val * 1))) n n]) x).toArray w' fun e w'' => ∃ L'', St w' (fps L') L'' w'' ∧ ((e = .returned (.bool true) ∧ J true (pre ++ [x]) L'') ∨ (e = .returned (.bool false) ∧ J false (pre ++ [x]) L''))) :
  Calls prog 196 #[.func (.yield l) #[] #[], .pointer (some ⟨b2, 0, none⟩), .pointer (some ⟨b3, 0, none⟩)] w0 (Post w0 (fps L0) fun v L => (∃ xs, xs = List.finRange m ∧ J true xs L) ∨ (∃ pre, True ∧ J false pre L)) := by
 refine cof (L := L0) 31 [] func196 h0 ?_
 refine gw ?_
 refine TC.loop (γ := Nat × List Assn) [6, 7, 8, 9, 13, 14, 15, 16, 17, 18, 5, 19, 20, 21, 22, 23, 24, 25, 26, 27, 28, 29, 30, 10, 11, 12, 4] (fun g => [(4, .int .i64 ((n * g.1 : Nat) : Int))]) (fun g => g.2) (fun g => g.1 ≤ m ∧ J true ((List.finRange m).take g.1) g.2) (fun g => m - g.1) ((0, L0))
  ⟨Nat.zero_le _, hJ⟩ ⟨Out.refl _ _, ag⟩ sr ?_
 rintro ⟨k, Z⟩ u ⟨hk, hj⟩
 dsimp only at hk hj
 refine gw ?_
 refine S.dec rfl rfl (Qt.lt rfl rfl) (fun h9 => gw ?_) (fun h9 => gw ?_)
 ·refine dw ([], []) ?_
  have hkm : k < m := Nat.lt_of_mul_lt_mul_left (a := n) h9
  have hkn : n * k + n ≤ n * m := by rw [← Nat.mul_succ]; exact Nat.mul_le_mul_left _ hkm
  have hkn2 : n * (k, Z).fst + n ≤ n * m := hkn
  refine gw ?_
  refine D.qY 3 rfl (Qt.slice_lo uT cT rfl rfl ow) (gw ?_)
  refine D.qY 5 rfl (Qt.as (Qt.minN rfl rfl) (by rw [Nat.min_eq_left (show n ≤ n * m - n * k by omega)])) (gw ?_)
  refine D.fi (gw ?_)
  refine S.r (Qt.add rfl rfl km) (gw ?_)
  refine S.r (Qt.add rfl rfl km) ?_
  refine S.r (Qt.as (v' := .slice (A.map (·.add (n * k * 1))) n n) (Qt.slice3 uT cT rfl rfl rfl rfl ow ow ow) (by rw [if_neg ow, show n * k + n - n * k = n by omega])) ?_
  refine S.o (OpV.yield (L1 := []) (enc := (fun i : Fin m => [.slice (A.map (·.add (n * i.val * 1))) n n])) ⟨k, hkm⟩ hY rfl rfl hj (fun Z2 hj2 => ?_) (fun Z2 hj2 => ?_))
  ·rw [← zbH hkm] at hj2
   refine gw ?_
   refine S.r (Qt.add rfl rfl km) (gw ?_)
   refine ⟨(k + 1, Z2), ?_, ?_, ⟨?_, ag⟩, sr⟩
   ·exact ⟨by show _ ≤ _; dsimp only; omega, hj2⟩
   ·show _ < _; dsimp only; omega
   exact outs
  ·refine gw ?_
   refine TC.ret ?_
   refine finQ.ret RVs.nil sr ?_
   exact .inr ⟨_, trivial, hj2⟩
 ·refine TC.exit ?_
  refine finQ.normal RVs.nil sr ?_
  have hkm : m ≤ k := Nat.le_of_mul_le_mul_left (Nat.le_of_not_lt h9) hn
  obtain rfl : k = m := by omega
  rw [zcQ] at hj
  exact .inl ⟨_, rfl, hj⟩
theorem zn9 (A : OAd) (m c n : Nat) (hn : 1 ≤ n) (hc : n * m ≤ c) (hc2 : c ≤ 9223372036854775807) (b2 b3 : Nat) (w : World) (L0 : List Assn) (h0 : Sat w L0) (hB2 : Ro w (fps L0) (Blk b2 112 [.slice A (n * m) c])) (hB3 : Ro w (fps L0) (Blk b3 3 [.int .i64 (n : Int)])) :
  Gen prog 196 #[.pointer (some ⟨b2, 0, none⟩), .pointer (some ⟨b3, 0, none⟩)] (fun i : Fin m => [.slice (A.map (·.add (n * i.val * 1))) n n]) (fun xs => xs = List.finRange m) (fun _ => True) w L0 := fun l J hJ hY =>
 zkz A m c n hn hc hc2 b2 b3 l J w L0 h0 hJ hB2 hB3 hY
theorem zdh (A : OAd) (c : Nat) (b : List UInt8) (w0 : World) (hR : Ro w0 [] (SlA A (zad b))) (hl : b.length ≤ 70368744177664) (hT : Tabs 3 1 w0 []) :
  Calls prog 114 #[.slice A b.length c] w0 (Post w0 [] fun v L => v = hv (shaH b) ∧ L = []) := by
 refine co 41 [.cell 2 49] func114 ?_
 obtain ⟨m, hm⟩ : ∃ m, (padL b).length = 64 * m := ⟨(padL b).length / 64, by have := zlI b; omega⟩
 have hpl := zcD b
 have hnl : zaY b.length < 64 := Nat.mod_lt _ (by decide)
 refine gw ?_
 intro b2
 refine gw ?_
 refine S.r (Qt.load rfl (Ld.sl0 (vs := w32s I256) (Has.ro hT.2) rT (by rw [zao, zde]; exact ce224) (by decide) (fun _ _ h => h))) (gw ?_)
 intro b3
 refine S.opN rfl (OpV.storeV0 (v := .agg (w32s I256).toArray) rfl rfl (by rw [zav, zao, zde]; exact ce224) (zcw _) (rfl) ?_)
 refine gw ?_
 refine S.cn J172 (fun w hw => zqB A c b w (Rd.ro hR w hw) hl) ?_
 rintro v L' ⟨O, d, rfl, rfl⟩
 refine S.cn J171 (fun w hw => zmC O (padL b).length d 64 (by decide) w) ?_
 rintro v L' ⟨c2, c3, rfl, rfl⟩
 refine gw ?_
 refine TC.fact hz2 (fun _ h => zaL h) (fun hdc => ?_)
 rw [hm] at hdc ⊢
 refine TC.rangeFunc (α := Fin m) (fun i : Fin m => [Value.slice (O.map (·.add (64 * i.val * 1))) 64 64]) (fun xs => xs = List.finRange m) (fun _ => True) (fun pre L' => L' = [Blk b3 224 (w32s (sumF (padL b) pre))]) (fun _ _ _ => False) (L0 := [Blk b3 224 (w32s (sumF (padL b) ([] : List (Fin m))))]) rfl rfl J196 rfl (fun _ => rfl) (pm3 (l₂ := [_])) rfl (fun w L' hw => zn9 O m d 64 (by decide) hdc.1 (by have := hdc.2.1; simp only [maxLen] at this; omega) c2 c3 w L' hw.sat.left (Ro.of_rest hw (.tail _ (.head _))) (Ro.of_rest hw (.head _))) ?_ ?_ (fun _ _ _ _ _ h => h.elim)
 ·rintro w' l Dd Rr Rb pre x L' rfl hst
  have hO : Ro w' (fps [Rr, dfA Dd, Blk b3 224 (w32s (sumF (padL b) pre))]) (SlA (O.map (·.add (64 * x.val * 1))) (zad (zfO (padL b) x.val))) := by
   rw [show zfO (padL b) x.val = ((padL b).drop (64 * x.val * 1)).take 64 by rw [Nat.mul_one]; rfl]
   exact Ro.bytesPart (Ro.own (Ro.of_rest hst (.tail _ (.tail _ (.head _))))) (64 * x.val * 1) 64
  have hT2 := Tabs.pre hT hst
  refine gw ?_
  refine ⟨_, sr, ?_⟩
  refine gw ?_
  refine S.draw ([5], []) mixed (sk (sk (sd sn0))) ?_
  refine D.qY 0 rfl (Qt.load rfl (Ld.all hz2 rT (by rw [zao, zdg]; exact ce224))) (gw ?_)
  refine D.qY 2 rfl (Qt.toArr uT rfl (Nat.le_refl _)) ?_
  refine D.qY 3 rfl (Qt.load rfl (Ld.sl0 (vs := zad (zfO (padL b) x)) (Has.ro hO) rT (by rw [zal, zcP x.2 hm]; exact ce289) (by rw [zal, zcP x.2 hm]; decide) (fun _ _ h => h))) ?_
  refine D.c0 4 rfl J173 (fun w hw => zmB _ _ (zdg _ _) (zcP x.2 hm) w (hT2.at hw)) ?_
  refine D.oN 5 rfl (OpV.storeV2 (v := .agg (w32s (comp (sumF (padL b) pre) (zfO (padL b) x))).toArray) rfl rfl (by rw [zav, zao, zdf]; exact ce224) (zcw _) (by rw [zav, zao, zao, zdf, zdg]) (sbk ?_))
  refine D.fi ?_
  refine ⟨_, sr, (congrArg (fun z => [Blk b3 224 (w32s z)]) (zjb (padL b) pre x)).symm⟩
 ·rintro Dd xs L' rfl rfl
  obtain ⟨s, hsd⟩ : ∃ s, s = sumF (padL b) (List.finRange m) := ⟨_, rfl⟩
  have hs : s.length = 8 := by rw [hsd, zdg]
  rw [← hsd]
  refine gw ?_
  intro b5
  refine gw ?_
  refine S.r (Qt.load rfl (Ld.all hz2 rT (by rw [zao, hs]; exact ce224))) (gw ?_)
  refine TC.loop (γ := Nat) [20, 21, 22, 6, 7, 23, 24, 25, 26, 27, 28, 29, 30, 31, 32, 33, 34, 35, 36, 37, 38, 39, 19] (fun i => [(19, .int .i64 (i : Int))]) (fun i => [Blk b5 49 (zad (outP s i)), dfA Dd, Blk b3 224 (w32s s), Blk b2 49 (List.replicate 32 (.int .u8 0))]) (fun i => i ≤ 8) (fun i => 8 - i) (0)
   ow ⟨Out.refl _ _, ag⟩ ((by rw [znT]; exact sk (sk (sk (sd (sd (sd sr))))))) ?_
  rintro i u hi
  refine gw ?_
  refine S.dec rfl rfl (Qt.lt (b := 8) rfl rfl) (fun h20 => gw ?_) (fun h20 => gw ?_)
  ·refine S.r (Qt.index_agg uT cT plain223 rfl rfl ow (zi3 (by rw [hs]; omega))) (gw ?_)
   refine S.r (Qt.mul (a := 4) rfl rfl km) ?_
   refine S.r (Qt.sliceB_lo uT cT rfl rfl ow) (gw ?_)
   refine S.r (Qt.shr32 (s := 24) rfl rfl) ?_
   refine S.r (Qt.toByte uT uT rfl) (gw ?_)
   refine S.r (Qt.shr32 (s := 16) rfl rfl) ?_
   refine S.r (Qt.toByte uT uT rfl) (gw ?_)
   refine S.r (Qt.shr32 (s := 8) rfl rfl) ?_
   refine S.r (Qt.toByte uT uT rfl) (gw ?_)
   refine S.r (Qt.toByte uT uT rfl) ?_
   refine S.o (OpV.sliceL (vs := zad (w4 (s.getD i 0))) uT elem5 rfl (by decide) rfl (fun v hv => (zi6 hv)) (fun g37 => ?_))
   refine S.o (OpV.copy1 (cs' := zad (outP s (i + 1))) (news := zad (w4 (s.getD i 0))) uT cT rfl rfl (Has.blk hz0) (by rw [Nat.min_eq_left ow]; rfl) (zaw _) (by rw [zal, zal, zcE hs ow]; show 0 + 4 * i * 1 + 4 ≤ 32; omega) (by rw [Nat.zero_add, Nat.mul_one]; exact znV hs ow) ?_)
   refine gw ?_
   refine ⟨i + 1, ?_, ?_, ⟨?_, ag⟩, sd sr⟩
   ·show _ ≤ _; omega
   ·show _ < _; dsimp only; omega
   exact outs
  ·refine TC.exit (TC.seq (gw ?_))
   refine S.r (Qt.load rfl (Ld.all hz0 rT (by rw [zal, zcE hs ow]; exact ce49))) ?_
   refine S.opN rfl (OpV.storeV3 (v := .agg (zad (outP s i)).toArray) rfl rfl (by rw [zav, zal, zcE hs ow]; exact ce49) (zhx _) (by rw [zav, zal, zcE hs ow]; rfl) ?_)
   refine gw ?_
   refine TC.ret ?_
   refine finQ.retM rfl (Sub.trans (sk sr) (Sub.of_perm pm1)) (RVs.cell rfl (Ld.all hz2 rT (by rw [zav, zal, zcE hs ow]; exact ce49)) RVs.nil) sn ?_
   have e : outP s i = shaL b := by rw [show i = 8 by omega, zqu hs, hsd, zqt, shaL, hm, Nat.mul_div_cancel_left _ (by decide)]
   exact ⟨congrArg (fun l => Value.agg (zad l).toArray) e, rfl⟩
end Go.Proofs.YtgdjcmehlhebdaaGreatDoor
