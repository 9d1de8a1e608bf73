/- Walks: what the functions of the package entrustref02 compute -/
import Derived.Test.YtgdjcmehlhebdaaGreatDoorYZTA
set_option maxHeartbeats 25600000
set_option linter.all false
namespace Go.Proofs.YtgdjcmehlhebdaaGreatDoor
open _root_.Go.Proofs.Tryz
open Go.E
set_option maxRecDepth 4000
theorem zfU (A) (c : Nat) (b : List UInt8) (w0) (hR : Ro w0 [] (SlA A (e9 b))) (hl : b.length ≤ 70368744177664) :
  cP 120 #[sL A b.length c] w0 fun v L => ∃ O d, v = sL O (V1 b).length d ∧ L = [OwnA 5 1 O (V1 b).length d (e9 (V1 b))] := by
 refine co 45 [.tmp 2] func120 ?_
 have hnl : I4 b.length < 64 := Nat.mod_lt _ dc
 refine gw ?_
 refine e6 (V9 (b := 64) rfl rfl ow) (e6 (o7 (a := 119) rfl rfl ow km) (e6 (n8 (V9 (b := 64) rfl rfl ow) (show _ = iI ↑(I4 b.length) from rfl)) (gw ?_)))
 refine z7 (eH uT ⟨_, elem5⟩ (fun g5 => (gw ?_)))
 refine z7 (Y6 (news := e9 b) uT elem5 rfl rfl (c9 hR) (by rw [o3]; omega) (r9 _) kx ow (fun O d => (gw ?_)))
 refine z7 (m5 (v := .int .u8 ↑((128 : UInt8).toNat)) uT elem5 dc rfl rfl (fun g7 => (z7 (G1 (news := e9 [128]) uT elem5 rfl rfl (j8 w5) (rfl) (r9 _) kx ow (fun O' d' => (gw ?_))))))
 refine l5 (γ := Nat × y8 × Nat) (mr 19 8 [4, 5]) (fun g => [(5, iI g.1), (4, sL g.2.1 (b.length + 1 + g.1) g.2.2)]) (fun g => [OwnA 5 1 g.2.1 (b.length + 1 + g.1) g.2.2 (e9 (wK b g.1))]) (fun g => g.1 ≤ I4 b.length) (fun g => I4 b.length - g.1) ((0, O', d'))
  (Nat.zero_le _) ⟨Out.refl _ _, (fm rfl (fm (by show sL O' (0 + b.length + 1) d' = sL O' (b.length + 1 + 0) d'; rw [Nat.zero_add]) nb))⟩ ((by dsimp only; rw [← zN, List.nil_append, Nat.zero_add]; exact sd sr)) ?_
 rintro ⟨j, O, d⟩ u hj
 dsimp only at hj
 refine gw ?_
 refine j0 rfl rfl (p9 rfl rfl) (fun h21 => gw ?_) (fun h21 => gw ?_)
 ·refine z7 (m5 (v := .int .u8 ↑((0 : UInt8).toNat)) uT elem5 dc rfl rfl (fun g14 => (z7 (G1 (news := e9 [0]) uT elem5 rfl rfl (j8 w5) (rfl) (r9 _) kx ow (fun O2 d2 => (gw ?_))))))
  exact ⟨(j + 1, O2, d2), od, od, oz, (by dsimp only; rw [← zM]; exact sd sr)⟩
 ·refine i7 (c8 (gw ?_))
  refine e6 (r8 uT uT rfl km) (e6 (n8 (F3 (b := 8) rfl rfl km) (by rw [Nat.mul_comm])) (C3 (l3 (c8 (c8 (c7 (C3 (l3 (C5 ?_)))))))))
  obtain rfl : j = I4 b.length := by dsimp only at h21; omega
  refine l5 (γ := Nat × y8 × Nat) (mr 31 13 [4, 7]) (fun g => [(7, iI (7 - (g.1 : Int))), (4, sL g.2.1 (b.length + 1 + I4 b.length + g.1) g.2.2)]) (fun g => [OwnA 5 1 g.2.1 (b.length + 1 + I4 b.length + g.1) g.2.2 (e9 (yD b g.1))]) (fun g => g.1 ≤ 8) (fun g => 8 - g.1) ((0, O, d))
   (Nat.zero_le _) oa ((by dsimp only; rw [zP]; exact sr)) ?_
  rintro ⟨i, O, d⟩ u hi
  dsimp only at hi
  refine gw ?_
  refine j0 rfl rfl (eI rfl rfl) (fun h32 => ?_) (fun h32 => ?_)
  ·refine l3 (Q3 rfl (w8 (c8 (C5 (c7 (o8 (o8 ?_)))))))
   refine e6 (n8 (m8 rfl) (congrArg (Value.int .i64) (show (7 - (i : Int)) = ((7 - i : Nat) : Int) by omega))) ?_
   refine e6 (F3 (a := 8) rfl rfl km) (e6 (r8 uT uT rfl km) (e6 (n8 (G5 rfl rfl km) (by rw [show 8 * (7 - i) = 56 - 8 * i by omega])) ?_))
   refine e6 (U4 uT uT rfl) (z7 (m5 (v := .int .u8 ((UInt8.ofNat (8 * b.length / 2 ^ (56 - 8 * i))).toNat : Nat)) uT elem5 dc rfl rfl (fun g28 => (z7 (G1 (news := e9 [UInt8.ofNat (8 * b.length / 2 ^ (56 - 8 * i))]) uT elem5 rfl rfl (j8 w5) (rfl) (r9 _) kx ow (fun O2 d2 => (gw ?_)))))))
   refine e6 (cM rfl rfl (IntWalk.i64_in _ ow)) (gw ?_)
   refine ⟨(i + 1, O2, d2), ?_, ?_, ⟨?_, (fm (by show iI (7 - (i : Int) - 1) = iI (7 - ((i + 1 : Nat) : Int)); congr 1; omega) ag)⟩, (by dsimp only; rw [← zO b ow]; exact sd sr)⟩
   ·show _ ≤ _; dsimp only; omega
   ·show _ < _; dsimp only; omega
   exact K8
  ·refine gw ?_
   refine i7 (c8 (gw ?_))
   refine a9 (D7 sr ?_)
   obtain rfl : i = 8 := by omega
   have e := dD b
   exact ⟨O, d, by rw [e]; rfl, by rw [e, EF b ow]⟩
theorem zak (s : List W) (A) (c : Nat) (bl : List UInt8) (ws : List W) (hs : s.length = 8) (hb : bl.length = 64) (hws : ws = bW bl 64) (hwl : ws.length = 64) (w0) (hR : Ro w0 [] (SlA A (e9 bl))) (hT : Tabs 2 0 w0 []) :
  cP 121 #[.agg (M5 s).toArray, sL A 64 c] w0 fun v L => v = .agg (M5 (mJ s (dX s ws 64))).toArray ∧ L = [] := by
 refine co 199 [.cell 4 224] func121 ?_
 refine gw ?_
 intro b2
 refine gw ?_
 intro b4
 refine gw ?_
 intro b5
 refine gw ?_
 refine l5 (γ := Nat) (mr 23 64 (mr 6 6 [])) (fun k => [(6, iI k)]) (fun k => [Blk b5 302 (M5 (R3 bl k)), Blk b4 224 (List.replicate 8 (.int .u32 0)), Blk b2 224 (M5 s)]) (fun k => k ≤ 64) (fun k => 64 - k) (0)
  ow oa ((by rw [tC]; exact sr)) ?_
 rintro k u hk
 refine gw ?_
 refine j0 rfl rfl (p9 (b := 64) rfl rfl) (fun h24 => gw ?_) (fun h24 => gw ?_)
 ·refine j0 rfl rfl (p9 (b := 16) rfl rfl) (fun h28 => gw ?_) (fun h28 => gw ?_)
  ·refine l5 (γ := Nat) (mr 29 19 [7]) (fun i => [(7, iI i)]) (fun i => [Blk b5 302 (M5 ((R3 bl k).set k (FH bl (4 * k) i))), Blk b4 224 (List.replicate 8 (.int .u32 0)), Blk b2 224 (M5 s)]) (fun i => i ≤ 4) (fun i => 4 - i) (0)
    ow oa ((by rw [zbF bl ow]; exact sr)) ?_
   rintro i u hi
   refine gw ?_
   refine j0 rfl rfl (p9 (b := 4) rfl rfl) (fun h30 => gw ?_) (fun h30 => gw ?_)
   ·refine D1 ([15], []) mixed (sd (sk (sk I8))) (gw ?_)
    refine c6 2 rfl (n7 uT cT rfl rfl ow) (c6 3 rfl (a8 rfl (i9 w5 oT (z3 (i := k) (by rw [List.length_set, C0 bl ow]; omega) ow))) (c6 4 rfl (zgr (q := 256) rfl rfl) (gw ?_)))
    refine c6 7 rfl (F3 (a := 4) rfl rfl km) (gw ?_)
    refine c6 9 rfl (v4 rfl rfl km) (c6 10 rfl (i5 uT cT rfl rfl ow (c9 hR) (by rw [o3]; omega)) (c6 11 rfl (a8 rfl (A9 (c9 hR) oT (uS (i := 4 * k + i) ow ow))) (c6 12 rfl (gU uT uT rfl) (c6 13 rfl (E5 rfl rfl) (c6 14 rfl (n7 uT cT rfl rfl ow) (F7 15 rfl (q6 rfl cw cT rfl rfl (by rw [u4, List.length_set, C0 bl ow]; omega) (by rw [Nat.zero_add, Nat.mul_one, kZ, zhJ, zhI _ _ _ _ (by rw [C0 bl ow]; omega)]) (G0 ?_))))))))
    refine p7 (gw ?_)
    exact ⟨i + 1, od, od, oz, sr⟩
   ·refine i7 (c7 (gw ?_))
    exact ⟨k + 1, od, od, oz, (by rw [show i = 4 by omega, zcU bl h28]; exact sr)⟩
  ·refine dw ([], []) (gw ?_)
   refine c6 1 rfl (o7 (b := 15) rfl rfl ow km) (c6 2 rfl (n7 uT cT rfl rfl ow) (c6 3 rfl (a8 rfl (i9 w5 oT (z3 (i := k - 15) (by rw [C0 bl ow]; omega) ow))) (gw ?_)))
   refine c6 5 rfl (o7 (b := 2) rfl rfl ow km) (c6 6 rfl (n7 uT cT rfl rfl ow) (c6 7 rfl (a8 rfl (i9 w5 oT (z3 (i := k - 2) (by rw [C0 bl ow]; omega) ow))) (gw ?_)))
   refine p7 (gw ?_)
   refine u7 en (fun w hw => cV _ 7 dc dc w) (gw ?_)
   refine u7 en (fun w hw => cV _ 18 dc dc w) (e6 (K5 rfl rfl) (gw ?_))
   refine e6 (aQ (s := 3) rfl rfl) (e6 (K5 rfl rfl) (gw ?_))
   refine u7 en (fun w hw => cV _ 17 dc dc w) (gw ?_)
   refine u7 en (fun w hw => cV _ 19 dc dc w) (e6 (K5 rfl rfl) (gw ?_))
   refine e6 (aQ (s := 10) rfl rfl) (e6 (K5 rfl rfl) (gw ?_))
   refine D1 ([15], []) mixed (sd (sk (sk I8))) (gw ?_)
   refine c6 2 rfl (o7 (b := 16) rfl rfl ow km) (c6 3 rfl (n7 uT cT rfl rfl ow) (c6 4 rfl (a8 rfl (i9 w5 oT (z3 (i := k - 16) (by rw [C0 bl ow]; omega) ow))) (gw ?_)))
   refine c6 6 rfl (E5 rfl rfl) (gw ?_)
   refine c6 8 rfl (o7 (b := 7) rfl rfl ow km) (c6 9 rfl (n7 uT cT rfl rfl ow) (c6 10 rfl (a8 rfl (i9 w5 oT (z3 (i := k - 7) (by rw [C0 bl ow]; omega) ow))) (c6 11 rfl (E5 rfl rfl) (gw ?_))))
   refine c6 13 rfl (E5 rfl rfl) (c6 14 rfl (n7 uT cT rfl rfl ow) (F7 15 rfl (q6 rfl cw cT rfl rfl (by rw [u4, C0 bl ow]; omega) (by rw [Nat.zero_add, Nat.mul_one, kZ, jP bl ow _ (by rw [wD, if_neg h28, Z6 bl ow, Z6 bl ow, Z6 bl ow, Z6 bl ow]; rfl)]) (G0 ?_))))
   refine p7 (gw ?_)
   exact ⟨k + 1, od, od, oz, sr⟩
 ·refine i7 (c8 (dw ([], []) (gw ?_)))
  refine c6 1 rfl (a8 rfl (i9 aH oT (z3 (i := 0) (by rw [hs]; decide) rfl))) (gw ?_)
  refine c6 3 rfl (a8 rfl (i9 aH oT (z3 (i := 1) (by rw [hs]; decide) rfl))) ?_
  refine c6 4 rfl (n7 (i := 2) uT cT rfl rfl ow) (c6 5 rfl (a8 rfl (i9 aH oT (z3 (i := 2) (by rw [hs]; decide) rfl))) ?_)
  refine c6 6 rfl (n7 (i := 3) uT cT rfl rfl ow) (c6 7 rfl (a8 rfl (i9 aH oT (z3 (i := 3) (by rw [hs]; decide) rfl))) ?_)
  refine c6 8 rfl (n7 (i := 4) uT cT rfl rfl ow) (c6 9 rfl (a8 rfl (i9 aH oT (z3 (i := 4) (by rw [hs]; decide) rfl))) ?_)
  refine c6 10 rfl (n7 (i := 5) uT cT rfl rfl ow) (c6 11 rfl (a8 rfl (i9 aH oT (z3 (i := 5) (by rw [hs]; decide) rfl))) ?_)
  refine c6 12 rfl (n7 (i := 6) uT cT rfl rfl ow) (c6 13 rfl (a8 rfl (i9 aH oT (z3 (i := 6) (by rw [hs]; decide) rfl))) ?_)
  refine c6 14 rfl (n7 (i := 7) uT cT rfl rfl ow) (c6 15 rfl (a8 rfl (i9 aH oT (z3 (i := 7) (by rw [hs]; decide) rfl))) (gw ?_))
  refine p7 (c8 (c8 (c7 (C3 (l3 (C5 ?_))))))
  have ew : R3 bl k = ws := by rw [hws, show k = 64 by omega, xH]
  rw [ew]
  refine l5 (γ := Nat) (mr 103 63 (mr 12 11 [])) (fun r => [(20, iI r), (12, .int .u32 (((dX s ws r).getD 0 0).toNat : Int)), (13, .int .u32 (((dX s ws r).getD 1 0).toNat : Int)), (14, .int .u32 (((dX s ws r).getD 2 0).toNat : Int)), (15, .int .u32 (((dX s ws r).getD 3 0).toNat : Int)), (16, .int .u32 (((dX s ws r).getD 4 0).toNat : Int)), (17, .int .u32 (((dX s ws r).getD 5 0).toNat : Int)), (18, .int .u32 (((dX s ws r).getD 6 0).toNat : Int)), (19, .int .u32 (((dX s ws r).getD 7 0).toNat : Int))]) (fun r => [Blk b5 302 (M5 ws), Blk b4 224 (List.replicate 8 (.int .u32 0)), Blk b2 224 (M5 s)]) (fun r => r ≤ 64) (fun r => 64 - r) (0)
   ow oa sr ?_
  rintro r u hr
  refine gw ?_
  refine j0 rfl rfl (p9 (b := 64) rfl rfl) (fun h104 => gw ?_) (fun h104 => gw ?_)
  ·refine dw ([], []) (gw ?_)
   refine I7 2 rfl en (fun w hw => cV _ 6 dc dc w) (gw ?_)
   refine I7 4 rfl en (fun w hw => cV _ 11 dc dc w) (c6 5 rfl (K5 rfl rfl) (gw ?_))
   refine I7 7 rfl en (fun w hw => cV _ 25 dc dc w) (c6 8 rfl (K5 rfl rfl) (c6 9 rfl (E5 rfl rfl) (gw ?_)))
   refine c6 12 rfl (aP rfl rfl) (gw ?_)
   refine c6 14 rfl (CV rfl) (gw ?_)
   refine c6 16 rfl (aP rfl rfl) (c6 17 rfl (K5 rfl rfl) (c6 18 rfl (E5 rfl rfl) (gw ?_)))
   refine c6 20 rfl (n7 uT cT rfl rfl ow) (c6 21 rfl (a8 rfl (II (c9 hT.1) oT (z3 (i := r) (by rw [rE]; omega) ow))) (c6 22 rfl (E5 rfl rfl) (gw ?_)))
   refine c6 24 rfl (n7 uT cT rfl rfl ow) (c6 25 rfl (a8 rfl (i9 w5 oT (z3 (i := r) (by rw [hwl]; omega) ow))) (c6 26 rfl (E5 rfl rfl) (gw ?_)))
   refine p7 (gw ?_)
   refine u7 en (fun w hw => cV _ 2 dc dc w) (gw ?_)
   refine u7 en (fun w hw => cV _ 13 dc dc w) (e6 (K5 rfl rfl) (gw ?_))
   refine u7 en (fun w hw => cV _ 22 dc dc w) (e6 (K5 rfl rfl) (gw ?_))
   refine e6 (aP rfl rfl) (gw ?_)
   refine e6 (aP rfl rfl) (e6 (K5 rfl rfl) (gw ?_))
   refine e6 (aP rfl rfl) (e6 (K5 rfl rfl) (e6 (E5 rfl rfl) (gw ?_)))
   refine e6 (E5 rfl rfl) (gw ?_)
   refine e6 (E5 rfl rfl) (gw ?_)
   exact ⟨r + 1, od, od, oz, sr⟩
  ·refine i7 (c8 (gw ?_))
   refine e6 (a8 rfl (i9 aH oT (z3 (i := 0) (by rw [hs]; decide) rfl))) (gw ?_)
   refine e6 (E5 rfl rfl) (gw ?_)
   refine e6 (a8 rfl (i9 aH oT (z3 (i := 1) (by rw [hs]; decide) rfl))) (gw ?_)
   refine e6 (E5 rfl rfl) (e6 (n7 (i := 2) uT cT rfl rfl ow) (e6 (a8 rfl (i9 aH oT (z3 (i := 2) (by rw [hs]; decide) rfl))) (gw ?_)))
   refine e6 (E5 rfl rfl) (e6 (n7 (i := 3) uT cT rfl rfl ow) (e6 (a8 rfl (i9 aH oT (z3 (i := 3) (by rw [hs]; decide) rfl))) (gw ?_)))
   refine e6 (E5 rfl rfl) (e6 (n7 (i := 4) uT cT rfl rfl ow) (e6 (a8 rfl (i9 aH oT (z3 (i := 4) (by rw [hs]; decide) rfl))) (gw ?_)))
   refine e6 (E5 rfl rfl) (e6 (n7 (i := 5) uT cT rfl rfl ow) (e6 (a8 rfl (i9 aH oT (z3 (i := 5) (by rw [hs]; decide) rfl))) (gw ?_)))
   refine e6 (E5 rfl rfl) (e6 (n7 (i := 6) uT cT rfl rfl ow) (e6 (a8 rfl (i9 aH oT (z3 (i := 6) (by rw [hs]; decide) rfl))) (gw ?_)))
   refine e6 (E5 rfl rfl) (e6 (n7 (i := 7) uT cT rfl rfl ow) (e6 (a8 rfl (i9 aH oT (z3 (i := 7) (by rw [hs]; decide) rfl))) (gw ?_)))
   refine e6 (E5 rfl rfl) (e6 (C8 (v := .agg (M5 (mJ s (dX s ws r))).toArray) rfl (fun _ => by kernel_rfl)) (j9 rfl (F9 (v := .agg (M5 (mJ s (dX s ws r))).toArray) rfl rfl (by rw [o6, u4]; exact ce224) (bZ _) (rfl) (gw ?_))))
   refine a9 (finQ.ret (j7 rfl (i4 N3 rT (by rw [o6, u4]; exact ce224)) n9) sn ?_)
   have e : dX s ws r = dX s ws 64 := by rw [show r = 64 by omega]
   rw [← e]
   exact rr
theorem zcP (s : List W) (A) (c : Nat) (bl : List UInt8) (hs : s.length = 8) (hb : bl.length = 64) (w0) (hR : Ro w0 [] (SlA A (e9 bl))) (hT : Tabs 2 0 w0 []) : cR 121 #[.agg (M5 s).toArray, sL A 64 c] w0 (.agg (M5 (BJ s bl)).toArray) :=
 cQ ((zak s A c bl (bW bl 64) hs hb rfl (W3 bl 64) w0 hR hT).mono fun e w ⟨v, L, h1, h2, h3, h4⟩ => ⟨v, L, h1, h2, by rw [h3, BJ, zd3], h4⟩)
theorem Y2 (A) (c : Nat) (b : List UInt8) (w0) (hR : Ro w0 [] (SlA A (e9 b))) (hl : b.length ≤ 70368744177664) (hT : Tabs 2 0 w0 []) :
  cP 57 #[sL A b.length c] w0 fun v L => v = hv (K3 b) ∧ L = [] := by
 refine co 42 [.cell 2 49] func57 ?_
 obtain ⟨m, hm⟩ : ∃ m, (V1 b).length = 64 * m := ⟨(V1 b).length / 64, by have := EG b; omega⟩
 have hpl := dD b
 have hnl : I4 b.length < 64 := Nat.mod_lt _ dc
 refine gw ?_
 intro b2
 refine gw ?_
 refine z9 en (fun w hw => zfU A c b w (Rd.ro hR w hw) hl) ?_
 rintro v L' ⟨O, d, rfl, rfl⟩
 refine zh8 w5 (fun _ h => H2 h) (fun hdc => (gw ?_))
 refine e6 (a8 rfl (FL (vs := M5 I256) (c9 hT.2) rT (by rw [u4, fI]; exact ce224) dc (fun _ _ h => h))) (gw ?_)
 intro b4
 refine j9 rfl (j5 (v := .agg (M5 I256).toArray) rfl rfl (by rw [o6, u4, fI]; exact ce224) (bZ _) (rfl) (gw ?_))
 refine l5 (γ := Nat) (mr 11 13 [5]) (fun k => [(5, iI ↑(64 * k))]) (fun k => [Blk b4 224 (M5 (mO (V1 b) k)), OwnA 5 1 O (V1 b).length d (e9 (V1 b)), Blk b2 49 (List.replicate 32 (.int .u8 0))]) (fun k => k ≤ m) (fun k => m - k) (0)
  ow oa sr ?_
 rintro k u hk
 have hO : ∀ {L : List Assn} {M : List Nat} {P : Program} {n : Nat} {r : Option Nat} w, St w0 M L w → OwnA 5 1 O (V1 b).length d (e9 (V1 b)) ∈ L → Ro w [] (SlA (O.map (·.add (64 * k * 1))) (e9 (jR (V1 b) k))) := fun {L M P n r} w hw hm => by
  rw [show jR (V1 b) k = ((V1 b).drop (64 * k * 1)).take 64 by rw [Nat.mul_one]; rfl]
  exact nY (Ro.own (l9 (C := ⟨P, n, w0, M, r⟩) hm w hw)) (64 * k * 1) 64
 refine gw ?_
 refine j0 rfl rfl (p9 rfl rfl) (fun h14 => gw ?_) (fun h14 => gw ?_)
 ·refine D1 ([7], []) mixed (sd (sk (sk I8))) (c6 0 rfl (a8 rfl (i4 w5 rT (by rw [u4, bX]; exact ce224))) (gw ?_))
  refine c6 4 rfl (v4 (b := 64) rfl rfl km) (c6 5 rfl (n8 (v' := sL (O.map (·.add (64 * k * 1))) 64 (d - 64 * k)) (zaD uT cT rfl rfl rfl ow (by have := hdc.1; omega)) (by have := hdc.1; rw [if_neg ow, show 64 * k + 64 - 64 * k = 64 by omega])) ?_)
  refine I7 6 rfl en (fun w hw => zcP _ _ _ (jR (V1 b) k) (bX _ _) (dR (m := m) ow hm) w (hO (P := prog) (n := 0) (r := none) w hw (by simp)) (hT.at hw)) (F7 7 rfl (j5 (v := .agg (M5 (BJ (mO (V1 b) k) (jR (V1 b) k))).toArray) rfl rfl (by rw [o6, u4, fQ]; exact ce224) (bZ _) (by rw [o6, u4, u4, fQ, bX]) (G0 ?_)))
  refine p7 (gw ?_)
  refine e6 (v4 (b := 64) rfl rfl km) (gw ?_)
  exact ⟨k + 1, od, od, oz, sr⟩
 ·refine i7 (c8 (gw ?_))
  intro b6
  refine l3 (c8 (c8 (c7 (C3 (l3 (C5 ?_))))))
  obtain ⟨s, hsd⟩ : ∃ s, s = mO (V1 b) k := ⟨_, rfl⟩
  have hs : s.length = 8 := by rw [hsd, bX]
  rw [← hsd]
  refine l5 (γ := Nat) (mr 24 17 [7]) (fun i => [(7, iI i)]) (fun i => [Blk b6 49 (e9 (qQ s i)), Blk b4 224 (M5 s), Blk b2 49 (List.replicate 32 (.int .u8 0))]) (fun i => i ≤ 32) (fun i => 32 - i) (0)
   ow oa ((by rw [zfD]; exact sk (sk (sd sr)))) ?_
  rintro i u hi
  refine gw ?_
  refine j0 rfl rfl (p9 (b := 32) rfl rfl) (fun h25 => gw ?_) (fun h25 => gw ?_)
  ·refine e6 (I2 (b := 4) rfl rfl ow km) (e6 (n7 uT cT rfl rfl ow) (e6 (a8 rfl (i9 N3 oT (z3 (i := i / 4) (by rw [hs]; omega) ow))) (gw ?_)))
   refine e6 (V9 (b := 4) rfl rfl ow) (e6 (F3 (a := 8) rfl rfl km) (e6 (o7 (a := 24) rfl rfl ow km) (e6 (r8 uT uT rfl km) (e6 (aQ rfl rfl) (e6 (U4 uT uT rfl) (e6 (n7 uT cT rfl rfl ow) (j9 rfl (q6 rfl cw cT rfl rfl (by rw [o3, dC hs ow]; omega) (by rw [Nat.zero_add, Nat.mul_one, zdo, zhj hs ow]) ?_))))))))
   refine gw ?_
   exact ⟨i + 1, od, od, oz, sr⟩
  ·refine i7 (c8 (gw ?_))
   refine e6 (a8 rfl (i4 w5 rT (by rw [o3, dC hs ow]; exact ce49))) ?_
   refine j9 rfl (K9 (v := .agg (e9 (qQ s i)).toArray) rfl rfl (by rw [o6, o3, dC hs ow]; exact ce49) (uU _) (by rw [o6, o3, dC hs ow]; rfl) ?_)
   refine gw ?_
   refine a9 (finQ.ret (j7 rfl (i4 aH rT (by rw [o6, o3, dC hs ow]; exact ce49)) n9) sn ?_)
   have hkm : k = m := by omega
   have e : qQ s i = FU b := by rw [show i = 32 by omega, zhi hs, hsd, hkm, FU, hm, Nat.mul_div_cancel_left _ dc]
   exact ⟨congrArg (fun l => Value.agg (e9 l).toArray) e, rfl⟩
theorem zem (s : Nat) (w0) :
  cP 201 #[iI s] w0 fun v L => v = .bool (decide (s = 1 ∨ s = 2 ∨ s = 4 ∨ s = 8)) ∧ L = [] := by
 refine co 17 [.tmp 2] func201 ?_
 refine gw ?_
 refine j0 rfl rfl (z6 (b := 1) rfl rfl) (fun h4 => gw ?_) (fun h4 => gw ?_)
 ·refine a9 (fR ?_)
  exact ⟨by simp [nF, *], rfl⟩
 ·refine D9 rfl rfl rfl (z6 (b := 2) rfl rfl) (fun h7 => gw ?_) (fun h7 => gw ?_)
  ·refine a9 (fR ?_)
   exact ⟨by simp [nF, *], rfl⟩
  ·refine D9 rfl rfl rfl (z6 (b := 4) rfl rfl) (fun h11 => gw ?_) (fun h11 => gw ?_)
   ·refine a9 (fR ?_)
    exact ⟨by simp [nF, *], rfl⟩
   ·refine D9 rfl rfl rfl (z6 (b := 8) rfl rfl) (fun h15 => gw ?_) (fun h15 => gw ?_)
    ·refine a9 (fR ?_)
     exact ⟨by simp [nF, *], rfl⟩
    ·refine a9 (fR ?_)
     exact ⟨by simp [nF, *], rfl⟩
theorem ziY (s : Nat) (h : s = 1 ∨ s = 2 ∨ s = 4 ∨ s = 8) (w0) : cR 201 #[iI s] w0 (.bool true) :=
 cQ ((zem s w0).mono fun e w ⟨v, L, h1, h2, h3, h4⟩ => ⟨v, L, h1, h2, by rw [h3, decide_eq_true h], h4⟩)
theorem kN (wb : Nat) (A) (c : Nat) (bs : List UInt8) (n s : Nat) (hs : s = 1 ∨ s = 2 ∨ s = 4 ∨ s = 8) (hn : n < 2 ^ (8 * s)) (hn64 : n < 18446744073709551616) (hb : bs.length ≤ 70368744177664) (w0) (hL : Sat w0 [Blk wb 297 [.nilIface, sL A bs.length c], OwnA 5 1 A bs.length c (e9 bs)]) :
  Calls prog 177 #[pZ wb, uI n, iI s] w0 (D0 w0 (A8 [Blk wb 297 [.nilIface, sL A bs.length c], OwnA 5 1 A bs.length c (e9 bs)]) fun v L => ∃ O d, v = pZ wb ∧ L = [Blk wb 297 [.nilIface, sL O (bs ++ H7 n s).length d], OwnA 5 1 O (bs ++ H7 n s).length d (e9 (bs ++ H7 n s))]) := by
 refine gW (L := [Blk wb 297 [.nilIface, sL A bs.length c], OwnA 5 1 A bs.length c (e9 bs)]) 51 [.tmp 6] func177 hL ?_
 refine gw ?_
 refine u7 en (fun w hw => ziY s hs w) (gw ?_)
 refine D9 rfl rfl rfl (p9 (b := 8) rfl rfl) (fun h15 => gw ?_) (fun h15 => gw ?_)
 ·refine E8 rfl rfl rfl (F3 (a := 8) rfl rfl km) (E8 rfl rfl rfl (G5 rfl rfl km) (E8 rfl rfl rfl (Qt.dF (C7 (b := 0) rfl rfl) (by rw [Nat.div_eq_of_lt hn]; exact fun h => h rfl)) (gw ?_)))
  refine e6 (cM rfl rfl (IntWalk.i64_in _ ow)) (gw ?_)
  refine l5 (γ := Nat × y8 × Nat) (mr 32 18 [7]) (fun g => [(7, iI ((s : Int) - 1 - (g.1 : Int)))]) (fun g => [Blk wb 297 [.nilIface, sL g.2.1 (bs ++ (H7 n s).take g.1).length g.2.2], OwnA 5 1 g.2.1 (bs ++ (H7 n s).take g.1).length g.2.2 (e9 (bs ++ (H7 n s).take g.1))]) (fun g => g.1 ≤ s) (fun g => s - g.1) ((0, A, c))
   (Nat.zero_le _) ⟨Out.refl _ _, (fm (by show iI ((s : Int) - 1) = iI ((s : Int) - 1 - ((0 : Nat) : Int)); congr 1; omega) nb)⟩ ((by dsimp only; rw [List.take_zero, List.append_nil]; exact sr)) ?_
  rintro ⟨i, O, d⟩ u hi
  dsimp only at hi
  have hlen : (bs ++ (H7 n s).take i).length ≤ bs.length + 8 := by rw [List.length_append, List.length_take, D8]; omega
  have hlen2 : (bs ++ (H7 n s).take (i, O, d).fst).length ≤ bs.length + 8 := hlen
  refine gw ?_
  refine j0 rfl rfl (eI rfl rfl) (fun h33 => gw ?_) (fun h33 => gw ?_)
  ·refine dw ([11, 14], [10]) (jU 0 rfl (m8 cw) ?_)
   refine c6 1 rfl (m8 cw) ?_
   refine c6 2 rfl (H8 rfl) (c6 3 rfl (x9 uT rfl ce112 rfl) (c6 4 rfl (a8 rfl (i9 w5 oT (rfl))) (c6 5 rfl (m8 cw) ?_)))
   refine c6 6 rfl (n8 (m8 rfl) (congrArg (Value.int .i64) (show ((s : Int) - 1 - (i : Int)) = ((s - 1 - i : Nat) : Int) by omega))) ?_
   refine c6 7 rfl (F3 (a := 8) rfl rfl km) (c6 8 rfl (G5 rfl rfl km) (c6 9 rfl (U4 uT uT rfl) (aO 10 rfl (m5 (v := .int .u8 ((UInt8.ofNat (n / 2 ^ (8 * (s - 1 - i)))).toNat : Nat)) uT elem5 dc rfl rfl (fun g46 => (G0 ?_))))))
   refine V5 11 rfl (Q1 (news := e9 [UInt8.ofNat (n / 2 ^ (8 * (s - 1 - i)))]) uT elem5 rfl rfl (j8 w5) (rfl) (r9 _) kx ow (fun O2 d2 => (G0 (gw ?_))))
   refine F7 14 rfl (rH rfl cw cT rfl rfl (Nat.le_of_ble_eq_true rfl) (G0 ?_))
   refine p7 (gw ?_)
   refine e6 (cM rfl rfl (IntWalk.i64_in _ ow)) (gw ?_)
   refine ⟨(i + 1, O2, d2), ?_, ?_, ⟨?_, (fm (by show iI ((s : Int) - 1 - (i : Int) - 1) = iI ((s : Int) - 1 - ((i + 1 : Nat) : Int)); congr 1; omega) nb)⟩, (by dsimp only; rw [GY bs n ow, ← EA bs n ow]; exact sd sr)⟩
   ·show _ ≤ _; dsimp only; omega
   ·show _ < _; dsimp only; omega
   exact K8
  ·refine i7 (c8 (gw ?_))
   refine a9 (D7 sr ?_)
   have e : (H7 n s).take i = H7 n s := by rw [show i = s by omega, DY]
   exact ⟨O, d, rfl, by simp only [e]⟩
 ·refine e6 (cM rfl rfl (IntWalk.i64_in _ ow)) (gw ?_)
  refine l5 (γ := Nat × y8 × Nat) (mr 32 18 [7]) (fun g => [(7, iI ((s : Int) - 1 - (g.1 : Int)))]) (fun g => [Blk wb 297 [.nilIface, sL g.2.1 (bs ++ (H7 n s).take g.1).length g.2.2], OwnA 5 1 g.2.1 (bs ++ (H7 n s).take g.1).length g.2.2 (e9 (bs ++ (H7 n s).take g.1))]) (fun g => g.1 ≤ s) (fun g => s - g.1) ((0, A, c))
   (Nat.zero_le _) ⟨Out.refl _ _, (fm (by show iI ((s : Int) - 1) = iI ((s : Int) - 1 - ((0 : Nat) : Int)); congr 1; omega) nb)⟩ ((by dsimp only; rw [List.take_zero, List.append_nil]; exact sr)) ?_
  rintro ⟨i, O, d⟩ u hi
  dsimp only at hi
  have hlen : (bs ++ (H7 n s).take i).length ≤ bs.length + 8 := by rw [List.length_append, List.length_take, D8]; omega
  have hlen2 : (bs ++ (H7 n s).take (i, O, d).fst).length ≤ bs.length + 8 := hlen
  refine gw ?_
  refine j0 rfl rfl (eI rfl rfl) (fun h33 => gw ?_) (fun h33 => gw ?_)
  ·refine dw ([11, 14], [10]) (jU 0 rfl (m8 cw) ?_)
   refine c6 1 rfl (m8 cw) ?_
   refine c6 2 rfl (H8 rfl) (c6 3 rfl (x9 uT rfl ce112 rfl) (c6 4 rfl (a8 rfl (i9 w5 oT (rfl))) (c6 5 rfl (m8 cw) ?_)))
   refine c6 6 rfl (n8 (m8 rfl) (congrArg (Value.int .i64) (show ((s : Int) - 1 - (i : Int)) = ((s - 1 - i : Nat) : Int) by omega))) ?_
   refine c6 7 rfl (F3 (a := 8) rfl rfl km) (c6 8 rfl (G5 rfl rfl km) (c6 9 rfl (U4 uT uT rfl) (aO 10 rfl (m5 (v := .int .u8 ((UInt8.ofNat (n / 2 ^ (8 * (s - 1 - i)))).toNat : Nat)) uT elem5 dc rfl rfl (fun g46 => (G0 ?_))))))
   refine V5 11 rfl (Q1 (news := e9 [UInt8.ofNat (n / 2 ^ (8 * (s - 1 - i)))]) uT elem5 rfl rfl (j8 w5) (rfl) (r9 _) kx ow (fun O2 d2 => (G0 (gw ?_))))
   refine F7 14 rfl (rH rfl cw cT rfl rfl (Nat.le_of_ble_eq_true rfl) (G0 ?_))
   refine p7 (gw ?_)
   refine e6 (cM rfl rfl (IntWalk.i64_in _ ow)) (gw ?_)
   refine ⟨(i + 1, O2, d2), ?_, ?_, ⟨?_, (fm (by show iI ((s : Int) - 1 - (i : Int) - 1) = iI ((s : Int) - 1 - ((i + 1 : Nat) : Int)); congr 1; omega) nb)⟩, (by dsimp only; rw [GY bs n ow, ← EA bs n ow]; exact sd sr)⟩
   ·show _ ≤ _; dsimp only; omega
   ·show _ < _; dsimp only; omega
   exact K8
  ·refine i7 (c8 (gw ?_))
   refine a9 (D7 sr ?_)
   have e : (H7 n s).take i = H7 n s := by rw [show i = s by omega, DY]
   exact ⟨O, d, rfl, by simp only [e]⟩
theorem pK (wb : Nat) (A) (c : Nat) (bs : List UInt8) (B) (d : Nat) (ns : List UInt8) (hb : bs.length ≤ 70368744177664) (hn : ns.length ≤ 70368744177664) (w0) (hL : Sat w0 [Blk wb 297 [.nilIface, sL A bs.length c], OwnA 5 1 A bs.length c (e9 bs)]) (hR : Ro w0 (A8 [Blk wb 297 [.nilIface, sL A bs.length c], OwnA 5 1 A bs.length c (e9 bs)]) (SlA B (e9 ns))) :
  Calls prog 178 #[pZ wb, sL B ns.length d] w0 (D0 w0 (A8 [Blk wb 297 [.nilIface, sL A bs.length c], OwnA 5 1 A bs.length c (e9 bs)]) fun v L => ∃ O d, v = pZ wb ∧ L = [Blk wb 297 [.nilIface, sL O (bs ++ ns).length d], OwnA 5 1 O (bs ++ ns).length d (e9 (bs ++ ns))]) := by
 refine gW (L := [Blk wb 297 [.nilIface, sL A bs.length c], OwnA 5 1 A bs.length c (e9 bs)]) 17 [.tmp 4] func178 hL ?_
 refine gw ?_
 refine z7 (G1 (news := e9 ns) uT elem5 rfl rfl (c9 hR) (by rw [o3]; omega) (r9 _) kx ow (fun O2 d2 => (gw ?_)))
 refine j9 rfl (zbP rfl cw cT rfl rfl (Nat.le_of_ble_eq_true rfl) (gw ?_))
 refine a9 (D7 sr ?_)
 exact ⟨O2, d2, rfl, by rw [List.length_append, H5]; rfl⟩
theorem xY (wb : Nat) (A) (c : Nat) (bs : List UInt8) (h : i6) (hb : bs.length ≤ 70368744177664) (w0) (hL : Sat w0 [Blk wb 297 [.nilIface, sL A bs.length c], OwnA 5 1 A bs.length c (e9 bs)]) :
  Calls prog 200 #[pZ wb, hv h] w0 (D0 w0 (A8 [Blk wb 297 [.nilIface, sL A bs.length c], OwnA 5 1 A bs.length c (e9 bs)]) fun v L => ∃ O d, v = pZ wb ∧ L = [Blk wb 297 [.nilIface, sL O (bs ++ h.1).length d], OwnA 5 1 O (bs ++ h.1).length d (e9 (bs ++ h.1))]) := by
 refine gW (L := [Blk wb 297 [.nilIface, sL A bs.length c], OwnA 5 1 A bs.length c (e9 bs)]) 8 [.tmp 4] func200 hL ?_
 refine gw ?_
 intro b3
 refine gw ?_
 refine e6 (n8 (v' := sL (some ⟨b3, 0, none⟩) h.1.length 32) (U1 uT cT rfl) (by rw [h.2])) (z7 (l8 (Pre := [Blk wb 297 [.nilIface, sL A bs.length c], OwnA 5 1 A bs.length c (e9 bs)]) (R := _) en rfl (pm1.trans (pc pm1)) (fun w hw => pK wb A c bs (some ⟨b3, 0, none⟩) 32 h.1 hb (by rw [h.2]; decide) w hw.sat.left (Ro.blk (y9 (A := Blk b3 49 (L8 h)) hw (List.mem_cons_self ..)))) ?_))
 rintro v L' ⟨O2, d2, rfl, rfl⟩
 refine gw ?_
 refine a9 (D7 (sx [0, 0]) ?_)
 exact ⟨O2, d2, rfl, rfl⟩
theorem qC (wb : Nat) (A) (c : Nat) (bs : List UInt8) (hb : bs.length ≤ 70368744177664) (w0) (hW : Ro w0 [] (Blk wb 297 [.nilIface, sL A bs.length c])) (hO : Ro w0 [] (SlA A (e9 bs))) :
  cP 180 #[pZ wb] w0 fun v L => ∃ O d, v = .tuple #[sL O bs.length d, .nilIface] ∧ L = [OwnA 5 1 O bs.length d (e9 bs)] := by
 refine co 25 [.tmp 2, .tmp 3] func180 ?_
 refine gw ?_
 refine z9 en (fun w hw => uZ A c bs w (Rd.ro hO w hw) hb) ?_
 rintro v L' ⟨O, d, rfl, rfl⟩
 refine gw ?_
 refine a9 (finQ.ret rv sr ?_)
 exact ⟨O, d, rfl, rfl⟩
theorem gM (h : Nat) (h1 : 1 ≤ h) (h2 : h ≤ 32) (l r : i6) (w0) :
  cP 176 #[iI h, hv l, hv r] w0 fun v L => ∃ O d, v = .tuple #[sL O (x5 h l r).length d, .nilIface] ∧ L = [OwnA 5 1 O (x5 h l r).length d (e9 (x5 h l r))] := by
 refine co 30 [.tmp 6, .tmp 7] func176 ?_
 refine m6 5 1 (gw ?_)
 intro b4
 refine gw ?_
 intro b5
 refine gw ?_
 refine e6 (Qt.dF (p9 (b := 1) rfl rfl) ow) (gw ?_)
 refine E8 rfl rfl rfl (Qt.dF (M0 (b := 32) rfl rfl) ow) (gw ?_)
 refine e6 (C8 (v := .agg #[.nilIface, sL none 0 0]) rfl (fun _ => by kernel_rfl)) (gw ?_)
 intro b17
 refine gw ?_
 refine D1 ([1, 4, 6, 8], [9]) mixed (sd (sk (sk (sd I8)))) (gw ?_)
 refine jU 3 rfl (r8 uT uT rfl km) (gw ?_)
 refine V5 1 rfl (l8 (Pre := [Blk b17 297 [.nilIface, sL none ([] : List UInt8).length 0], OwnA 5 1 none ([] : List UInt8).length 0 (e9 ([] : List UInt8))]) (R := _) en rfl (pc pm2) (fun w hw => kN b17 none 0 [] 2 1 (.inl rfl) dc dc dc w hw.sat.left) ?_)
 rintro v L' ⟨O1, d1, rfl, rfl⟩
 refine G0 ?_
 refine V5 4 rfl (l8 (Pre := [Blk b17 297 [.nilIface, sL O1 (([] : List UInt8) ++ H7 2 1).length d1], OwnA 5 1 O1 (([] : List UInt8) ++ H7 2 1).length d1 (e9 (([] : List UInt8) ++ H7 2 1))]) (R := _) en rfl pr (fun w hw => kN b17 O1 d1 _ h 1 (.inl rfl) (by show h < 256; omega) ow (by simp [D8, l.2, r.2]) w hw.sat.left) ?_)
 rintro v L' ⟨O2, d2, rfl, rfl⟩
 refine G0 ?_
 refine V5 6 rfl (l8 (Pre := [Blk b17 297 [.nilIface, sL O2 ((([] : List UInt8) ++ H7 2 1) ++ H7 h 1).length d2], OwnA 5 1 O2 ((([] : List UInt8) ++ H7 2 1) ++ H7 h 1).length d2 (e9 ((([] : List UInt8) ++ H7 2 1) ++ H7 h 1))]) (R := _) en rfl pr (fun w hw => xY b17 O2 d2 _ l (by simp [D8, l.2, r.2]) w hw.sat.left) ?_)
 rintro v L' ⟨O3, d3, rfl, rfl⟩
 refine G0 ?_
 refine V5 8 rfl (l8 (Pre := [Blk b17 297 [.nilIface, sL O3 (((([] : List UInt8) ++ H7 2 1) ++ H7 h 1) ++ l.1).length d3], OwnA 5 1 O3 (((([] : List UInt8) ++ H7 2 1) ++ H7 h 1) ++ l.1).length d3 (e9 (((([] : List UInt8) ++ H7 2 1) ++ H7 h 1) ++ l.1))]) (R := _) en rfl pr (fun w hw => xY b17 O3 d3 _ r (by simp [D8, l.2, r.2]) w hw.sat.left) ?_)
 rintro v L' ⟨O4, d4, rfl, rfl⟩
 refine G0 ?_
 refine P5 9 rfl en (fun w hw => qC b17 O4 d4 _ (by simp [D8, l.2, r.2]) w (Rd.at 0 rfl w hw) (Rd.own (Rd.at 1 rfl) w hw)) ?_
 rintro v L' ⟨O5, d5, rfl, rfl⟩
 refine gw ?_
 refine p7 (a9 (finQ.ret rv (sk sn) ?_))
 have e : ((((([] : List UInt8) ++ H7 2 1) ++ H7 h 1) ++ l.1) ++ r.1) = x5 h l r := by rw [DZ, DZ, x5]; rfl
 rw [e]
 exact ⟨O5, d5, rfl, rfl⟩
theorem sB (A) (c : Nat) (b : List UInt8) (w0) (hR : Ro w0 [] (SlA A (e9 b))) (hl : b.length ≤ 70368744177664) (hT : Tabs 3 1 w0 []) :
  cP 118 #[sL A b.length c, .nilIface] w0 fun v L => v = .tuple #[hv (K3 b), .nilIface] ∧ L = [] := by
 refine co 12 [.cell 4 49, .tmp 5] func118 ?_
 refine gw ?_
 intro b4
 refine gw ?_
 refine u7 en (fun w hw => cQ (fC A c b w (Rd.ro hR w hw) hl (hT.at hw))) (j9 rfl (W9 (K3 b) rfl (gw ?_)))
 refine a9 (finQ.ret (j7 rfl (i4 w5 rT (o5 ce49)) rv) sn ?_)
 exact rr
theorem vV (h : Nat) (h1 : 1 ≤ h) (h2 : h ≤ 32) (l r : i6) (w0) (hT : Tabs 3 1 w0 []) : cR 117 #[iI h, hv l, hv r] w0 (.tuple #[hv (F8 h l r), .nilIface]) := by
 refine cQ (co 17 [.cell 6 49, .tmp 7] func117 ?_)
 refine gw ?_
 intro b4
 refine gw ?_
 intro b5
 refine gw ?_
 intro b6
 refine gw ?_
 refine z9 en (fun w hw => gM h h1 h2 l r w) ?_
 rintro v L' ⟨O, d, rfl, rfl⟩
 refine gw ?_
 refine u7 en (fun w hw => cQ (sB O d (x5 h l r) w (Rd.own (Rd.at 0 rfl) w hw) (by rw [L9]; decide) (hT.at hw))) (gw ?_)
 refine j9 rfl (HY (F8 h l r) rfl (gw ?_))
 refine a9 (finQ.ret (j7 rfl (i4 N3 rT (o5 ce49)) rv) sn ?_)
 exact rr
theorem zaE (E : Nat → i6) (hE0 : E 0 = K3 [0]) (hE : ∀ h, E (h + 1) = F8 (h + 1) (E h) (E h)) (w0) (hT : Tabs 3 1 w0 []) :
  cP 55 #[] w0 fun v L => v = .agg (m9 (H3 E)).toArray ∧ L = [] := by
 refine co 31 [.cell 0 140] func55 ?_
 refine gw ?_
 intro b0
 refine gw ?_
 refine z7 (m5 (v := .int .u8 ↑((0 : UInt8).toNat)) uT elem5 dc rfl rfl (fun g5 => (u7 en (fun w hw => (by rw [hE0]; exact cQ (fC (some ⟨g5, 0, none⟩) 1 [0] w (e4 (bl := [0]) (Rd.at 0 rfl) w hw) dc (hT.at hw)) : cR 114 #[sL (some ⟨g5, 0, none⟩) 1 1] w (hv (E 0)))) ?_)))
 refine e6 (n8 (v' := .agg (m9 (cA E 1)).toArray) (rJ (vs := [hv (E 0)]) uT cT ze140 rfl (by intro v hv; rw [List.mem_singleton.1 hv]; exact v9 _) (by rw [List.flatMap_singleton, v9, List.length_replicate]; decide)) (by rw [zeV, List.flatMap_singleton, mQ, l6, List.drop_replicate])) (gw ?_)
 intro b1
 refine j9 rfl (j5 (v := .agg (m9 (cA E 1)).toArray) rfl rfl (by rw [o6, m7, P7 E ow]; exact ce140) (BO _) (by rw [o6, m7, P7 E ow, List.length_replicate]) (gw ?_))
 refine l5 (γ := Nat) (mr 8 22 [2, 3, 4]) (fun k => [(2, iI k)]) (fun k => [Blk b1 140 (m9 (cA E k)), Blk b0 140 (List.replicate 1056 (.int .u8 0))]) (fun k => 1 ≤ k ∧ k ≤ 33) (fun k => 33 - k) (1)
  ⟨Nat.le_refl _, by omega⟩ oa ((sk (sd sr))) ?_
 rintro k u ⟨hk1, hk⟩
 refine gw ?_
 refine j0 rfl rfl (p9 (b := 33) rfl rfl) (fun h9 => gw ?_) (fun h9 => gw ?_)
 ·refine dw ([14], [13]) (gw ?_)
  refine c6 2 rfl (o7 (b := 1) rfl rfl ow km) (c6 3 rfl (n7 uT cT rfl rfl ow) (c6 4 rfl (n8 (a8 rfl (uJ w5 (k - 1) rT ce49 (by rw [P7 E ow]; omega) ow)) (by rw [yX E ow])) (gw ?_)))
  refine c6 6 rfl (o7 (b := 1) rfl rfl ow km) (c6 7 rfl (n7 uT cT rfl rfl ow) (c6 8 rfl (n8 (a8 rfl (uJ w5 (k - 1) rT ce49 (by rw [P7 E ow]; omega) ow)) (by rw [yX E ow])) ?_))
  have hEk : E k = F8 k (E (k - 1)) (E (k - 1)) := by have := hE (k - 1); rwa [show k - 1 + 1 = k by omega] at this
  refine I7 9 rfl en (fun w hw => (by rw [hEk]; exact vV k ow ow (E (k - 1)) (E (k - 1)) w (hT.at hw) : cR 117 #[iI k, hv (E (k - 1)), hv (E (k - 1))] w (.tuple #[hv (E k), .nilIface]))) (gw ?_)
  refine aO 13 rfl (z4 zT (fun b3 => (G0 ?_)))
  refine F7 14 rfl (W9 (E k) rfl (G0 (gw ?_)))
  refine p7 (gw ?_)
  refine e6 (n7 uT cT rfl rfl ow) (j9 rfl (zbT (v := hv (E k)) rfl rfl (o5 ce49) (N7 _) (by rw [v9, m7, P7 E ow]; omega) (by rw [Nat.zero_add, GQ _ _ _ (by rw [P7 E ow]; omega), zeW E ow]) (gw ?_)))
  refine ⟨k + 1, ?_, od, oz, (sd sr)⟩
  exact ⟨by omega, by omega⟩
 ·refine i7 (c8 (gw ?_))
  refine e6 (a8 rfl (i4 w5 rT (by rw [m7, P7 E ow]; exact ce140))) (j9 rfl (F9 (v := .agg (m9 (cA E k)).toArray) rfl rfl (by rw [o6, m7, P7 E ow]; exact ce140) (BO _) (by rw [o6, m7, P7 E ow, List.length_replicate]) (gw ?_)))
  refine a9 (finQ.ret (j7 rfl (i4 N3 rT (by rw [o6, m7, P7 E ow]; exact ce140)) n9) sn ?_)
  have e : cA E k = H3 E := by rw [show k = 33 by omega, zeU]
  rw [← e]
  exact rr
theorem zeX (w0) (hT : Tabs 3 1 w0 []) : cR 55 #[] w0 (.agg (m9 (H3 mY)).toArray) := cQ (zaE mY rfl (fun _ => rfl) w0 hT)
theorem Z5 (h : Nat) (h2 : h ≤ 32) (l r : i6) (w0) :
  cP 126 #[iI h, hv l, hv r] w0 fun v L => ∃ O d, v = sL O (x5 h l r).length d ∧ L = [OwnA 5 1 O (x5 h l r).length d (e9 (x5 h l r))] := by
 refine co 16 [.tmp 6] func126 ?_
 refine gw ?_
 intro b4
 refine gw ?_
 intro b5
 refine gw ?_
 refine e6 (U4 uT uT rfl) (z7 (Q2 (vs := e9 [2, UInt8.ofNat h]) uT elem5 rfl dc rfl (fun v hv => (yU hv)) (fun g10 => (e6 (U1 uT cT rfl) (z7 (Y6 (news := e9 l.1) uT elem5 rfl rfl (j8 (cs := L8 l) aH) (by rw [o3, l.2]) (r9 _) kx ow (fun O d => (gw ?_))))))))
 refine e6 (U1 uT cT rfl) (z7 (Y6 (news := e9 r.1) uT elem5 rfl rfl (j8 (cs := L8 r) N3) (by rw [o3, r.2]) (r9 _) kx ow (fun O2 d2 => (gw ?_))))
 refine a9 (D7 (sk sn) ?_)
 have e : (List.flatMap vl (e9 [2, UInt8.ofNat h]) ++ e9 l.1 ++ e9 r.1) = e9 (x5 h l r) := by rw [x5, H5, H5]; rfl
 rw [e, L9]
 exact ⟨O2, d2, rfl, rfl⟩
theorem guard49 : prog.eqGuardType prog.depth 49 = false := by kernel_rfl
theorem zdC {p q r : Prop} (h : ¬ (p ∧ q ∧ r)) : ¬ p ∨ (p ∧ ¬ q) ∨ (p ∧ q ∧ ¬ r) := by
 by_cases hp : p
 ·by_cases hq : q
  ·exact .inr (.inr ⟨hp, hq, fun hr => h ⟨hp, hq, hr⟩⟩)
  ·exact .inr (.inl ⟨hp, hq⟩)
 ·exact .inl hp
theorem GS (x : Nat) (hx : x < 4294967296) (w0) : cR 103 #[uI x] w0 (iI ↑(K7 x)) := by
 refine cQ (co 25 [.tmp 2] func103 ?_)
 refine gw ?_
 refine e6 (Qt.dF (T0 (b := 4294967296) rfl rfl) ow) (gw ?_)
 refine j0 rfl rfl (T0 (b := 65536) rfl rfl) (fun h8 => gw ?_) (fun h8 => gw ?_)
 ·refine e6 (G5 (s := 16) rfl rfl km) (gw ?_)
  refine e6 (iS rfl rfl (IntWalk.i64_in _ ow)) (gw ?_)
  refine j0 rfl rfl (T0 (b := 256) rfl rfl) (fun h14 => gw ?_) (fun h14 => gw ?_)
  ·refine e6 (G5 (s := 8) rfl rfl km) (gw ?_)
   refine e6 (iS rfl rfl (IntWalk.i64_in _ ow)) (gw ?_)
   refine e6 (r8 uT uT rfl km) (e6 (n8 (dO uT rfl rfl (tZ _ kr ow)) (by rw [pB ow])) (e6 (r8 uT uT rfl (by have := C9 (i := x) ; have := C9 (i := x / 2 ^ 16); have := C9 (i := x / 2 ^ 8); have := C9 (i := x / 2 ^ 16 / 2 ^ 8); simp only [H1]; omega)) (e6 (iS rfl rfl (IntWalk.i64_in _ (by have := C9 (i := x) ; have := C9 (i := x / 2 ^ 16); have := C9 (i := x / 2 ^ 8); have := C9 (i := x / 2 ^ 16 / 2 ^ 8); omega))) (gw ?_))))
   refine a9 (fR ?_)
   have e8 := dQ (x := x) (n := 16) ow
   have e14 := dQ (x := (x / 2 ^ 16)) (n := 8) ow
   exact ⟨congrArg (Value.int .i64) ow, rfl⟩
  ·refine e6 (r8 uT uT rfl km) (e6 (n8 (dO uT rfl rfl (tZ _ kr ow)) (by rw [pB ow])) (e6 (r8 uT uT rfl (by have := C9 (i := x) ; have := C9 (i := x / 2 ^ 16); have := C9 (i := x / 2 ^ 8); have := C9 (i := x / 2 ^ 16 / 2 ^ 8); simp only [H1]; omega)) (e6 (iS rfl rfl (IntWalk.i64_in _ (by have := C9 (i := x) ; have := C9 (i := x / 2 ^ 16); have := C9 (i := x / 2 ^ 8); have := C9 (i := x / 2 ^ 16 / 2 ^ 8); omega))) (gw ?_))))
   refine a9 (fR ?_)
   have e8 := dQ (x := x) (n := 16) ow
   exact ⟨congrArg (Value.int .i64) ow, rfl⟩
 ·refine j0 rfl rfl (T0 (b := 256) rfl rfl) (fun h14 => gw ?_) (fun h14 => gw ?_)
  ·refine e6 (G5 (s := 8) rfl rfl km) (gw ?_)
   refine e6 (iS rfl rfl (IntWalk.i64_in _ ow)) (gw ?_)
   refine e6 (r8 uT uT rfl km) (e6 (n8 (dO uT rfl rfl (tZ _ kr ow)) (by rw [pB ow])) (e6 (r8 uT uT rfl (by have := C9 (i := x) ; have := C9 (i := x / 2 ^ 16); have := C9 (i := x / 2 ^ 8); have := C9 (i := x / 2 ^ 16 / 2 ^ 8); simp only [H1]; omega)) (e6 (iS rfl rfl (IntWalk.i64_in _ (by have := C9 (i := x) ; have := C9 (i := x / 2 ^ 16); have := C9 (i := x / 2 ^ 8); have := C9 (i := x / 2 ^ 16 / 2 ^ 8); omega))) (gw ?_))))
   refine a9 (fR ?_)
   have e14 := dQ (x := x) (n := 8) ow
   exact ⟨congrArg (Value.int .i64) ow, rfl⟩
  ·refine e6 (r8 uT uT rfl km) (e6 (n8 (dO uT rfl rfl (tZ _ kr ow)) (by rw [pB ow])) (e6 (r8 uT uT rfl (by have := C9 (i := x) ; have := C9 (i := x / 2 ^ 16); have := C9 (i := x / 2 ^ 8); have := C9 (i := x / 2 ^ 16 / 2 ^ 8); simp only [H1]; omega)) (e6 (iS rfl rfl (IntWalk.i64_in _ (by have := C9 (i := x) ; have := C9 (i := x / 2 ^ 16); have := C9 (i := x / 2 ^ 8); have := C9 (i := x / 2 ^ 16 / 2 ^ 8); omega))) (gw ?_))))
   refine a9 (fR ?_)
   exact ⟨congrArg (Value.int .i64) ow, rfl⟩
theorem oU (n : Nat) (h : fE n) (w0) :
  cP 39 #[uI n] w0 fun v L => v = .tuple #[iI ↑(s7 n), .nilIface] ∧ L = [] := by
 refine co 14 [.tmp 2, .tmp 3] func39 ?_
 obtain ⟨hn1, hn2⟩ := id h
 refine gw ?_
 refine e6 (Qt.dF (p9 (b := 1) rfl rfl) ow) (gw ?_)
 refine E8 rfl rfl rfl (Qt.dF (M0 (b := 4294967296) rfl rfl) ow) (gw ?_)
 refine e6 (o7 (b := 1) rfl rfl ow km) (u7 en (fun w hw => (GS (n - 1) ow w : cR 103 #[uI ↑(n - 1)] w (iI ↑(s7 n)))) (gw ?_))
 exact tR
theorem oR (n : Nat) (h : fE n) (w0) : cR 39 #[uI n] w0 (.tuple #[iI ↑(s7 n), .nilIface]) := cQ (oU n h w0)
theorem vP (n : Nat) (h : ¬ fE n) (w0) : cR 39 #[uI n] w0 (.tuple #[iI 0, .iface 73 (iI 1)]) := by
 refine cQ (co 14 [.tmp 2, .tmp 3] func39 ?_)
 refine gw ?_
 refine j0 rfl rfl (p9 (b := 1) rfl rfl) (fun h5 => gw ?_) (fun h5 => gw ?_)
 ·exact tR
 ·refine E8 rfl rfl rfl (Qt.dT (M0 (b := 4294967296) rfl rfl) (by have := h; unfold fE at this; omega)) (gw ?_)
  exact tR
theorem Tryz.keyAt : KeyLaw prog 249 p6 := Go.E.keyAt underlying249 (by decide) (by decide) rfl rfl underlying3 underlying40 (by kernel_rfl)
theorem zv23 : gI prog 49 = some (hv e7) := by kernel_rfl
theorem buildAt (l p : Nat) (w : World) : (Instr.build 249 #[(0, .int .i64 (l : Int)), (1, .int .u64 (p : Int))]).run prog w = .ok (p6 (l, p)) w := by kernel_rfl
theorem zjX (E : Nat → i6) (tb mb gh l p : Nat) (hh : gh ≤ 32) (hp : p < 18446744073709551616) (w0) (hB : Ro w0 [] (Blk tb 243 (q7 E gh mb))) : cR 166 #[pZ tb, p6 (l, p)] w0 (.bool (decide (N0 gh (l, p)))) := by
 refine cQ (co 30 [.tmp 4] func166 ?_)
 refine gw ?_
 intro b3
 refine gw ?_
 refine dw ([], []) (gw ?_)
 refine c6 2 rfl (Qt.dT (T0 (b := 0) rfl rfl) ow) (gw ?_)
 refine dN (k := 10) rfl kr kr kr rfl rfl rfl (bM rfl rfl) (fun h15 => gw ?_) (fun h15 => gw ?_)
 ·refine C2 21 rfl rfl (o7 rfl rfl ow km) (C2 22 rfl rfl (G5 rfl rfl km) (dN (k := 23) rfl kr kr kr rfl rfl rfl (z6 (b := 0) rfl rfl) (fun h28 => gw ?_) (fun h28 => gw ?_)))
  ·refine p7 (a9 (fR ?_))
   exact ⟨(dT ((EB h15).1 h28)).symm, rfl⟩
  ·refine p7 (a9 (fR ?_))
   exact ⟨(dF (fun h => h28 ((EB h15).2 h))).symm, rfl⟩
 ·refine p7 (a9 (fR ?_))
  exact ⟨(dF (fun h => h15 h.1)).symm, rfl⟩
theorem IW (E : Nat → i6) (tb mb gh l p : Nat) (hh : gh ≤ 32) (h : N0 gh (l, p)) (w0) (hB : Ro w0 [] (Blk tb 243 (q7 E gh mb))) : cR 166 #[pZ tb, p6 (l, p)] w0 (.bool true) := by
 have hr := zjX E tb mb gh l p hh (by have := aX hh h; omega) w0 hB
 rwa [decide_eq_true h] at hr
theorem ze2 (E : Nat → i6) (tb mb gh : Nat) (ms : Tm) (l p : Nat) (hl : l ≤ 32) (h : i6) (hlk : Go.E.look (l, p) ms = some h) (w0) (hB : Ro w0 [] (Blk tb 243 (q7 E gh mb))) (hM : Ro w0 [] (u6 mb p6 hv (ms))) :
  cP 135 #[pZ tb, p6 (l, p)] w0 fun v L => v = hv (s4 E ms (l, p)) ∧ L = [] := by
 refine co 25 [.cell 4 49] func135 ?_
 refine gw ?_
 intro b3
 refine gw ?_
 intro b4
 refine gw ?_
 refine dw ([10], [9]) (gw ?_)
 refine c6 4 rfl (a8 rfl (i4 (vs := vl (p6 (l, p))) N3 rT ce249)) (c6 5 rfl (n8 (v' := .tuple #[hv h, .bool true]) (iT (k := (l, p)) uT Tryz.keyAt zv23 rfl rfl (c9 hM)) (by rw [hlk]; rfl)) (gw ?_))
 refine aO 9 rfl (z4 zT (fun b5 => (G0 ?_)))
 refine F7 10 rfl (W9 (h) rfl (G0 (gw ?_)))
 refine p7 (gw ?_)
 refine j9 rfl (HY (h) rfl (gw ?_))
 refine a9 (finQ.ret (j7 rfl (i4 N3 rT (o5 ce49)) n9) sn ?_)
 exact ⟨congrArg hv (xW E ms _ hlk).symm, rfl⟩
theorem ze1 (E : Nat → i6) (tb mb gh : Nat) (ms : Tm) (l p : Nat) (hl : l ≤ 32) (hlk : Go.E.look (l, p) ms = none) (w0) (hB : Ro w0 [] (Blk tb 243 (q7 E gh mb))) (hM : Ro w0 [] (u6 mb p6 hv (ms))) :
  cP 135 #[pZ tb, p6 (l, p)] w0 fun v L => v = hv (s4 E ms (l, p)) ∧ L = [] := by
 refine co 25 [.cell 4 49] func135 ?_
 refine gw ?_
 intro b3
 refine gw ?_
 intro b4
 refine gw ?_
 refine dw ([10], [9]) (gw ?_)
 refine c6 4 rfl (a8 rfl (i4 (vs := vl (p6 (l, p))) N3 rT ce249)) (c6 5 rfl (n8 (v' := .tuple #[hv e7, .bool false]) (iT (k := (l, p)) uT Tryz.keyAt zv23 rfl rfl (c9 hM)) (by rw [hlk]; rfl)) (gw ?_))
 refine aO 9 rfl (z4 zT (fun b5 => (G0 ?_)))
 refine F7 10 rfl (W9 (e7) rfl (G0 (gw ?_)))
 refine p7 (gw ?_)
 refine dw ([7], []) (gw ?_)
 refine c6 5 rfl (n7 uT cT rfl rfl ow) (c6 6 rfl (a8 rfl (CQ (c9 hB) l rT ce49 ow rfl)) (F7 7 rfl (HY (E l) rfl (G0 ?_))))
 refine p7 (a9 (finQ.ret (j7 rfl (i4 N3 rT (o5 ce49)) n9) sn ?_))
 exact ⟨congrArg hv (xX E ms _ hlk).symm, rfl⟩
theorem yY (E : Nat → i6) (tb mb gh : Nat) (ms : Tm) (l p : Nat) (hl : l ≤ 32) (w0) (hB : Ro w0 [] (Blk tb 243 (q7 E gh mb))) (hM : Ro w0 [] (u6 mb p6 hv (ms))) : cR 135 #[pZ tb, p6 (l, p)] w0 (hv (s4 E ms (l, p))) := by
 cases hlk : Go.E.look (l, p) ms with
 | none => exact cQ (ze1 E tb mb gh ms l p hl hlk w0 hB hM)
 | some h => exact cQ (ze2 E tb mb gh ms l p hl h hlk w0 hB hM)
theorem DX (E : Nat → i6) (hEm : ∀ w, Tabs 3 1 w [] → cR 55 #[] w (.agg (m9 (H3 E)).toArray)) (gh : Nat) (hh : gh ≤ 32) (w0) (hT : Tabs 3 1 w0 []) :
  cP 67 #[iI gh] w0 fun v L => ∃ tb mb, v = .tuple #[pZ tb, .nilIface] ∧ L = [Blk tb 243 (q7 E gh mb), u6 mb p6 hv ([])] := by
 refine co 16 [.tmp 2, .tmp 3] func67 ?_
 refine gw ?_
 refine e6 (Qt.dF (p9 (b := 0) rfl rfl) ow) (gw ?_)
 refine E8 rfl rfl rfl (Qt.dF (M0 (b := 32) rfl rfl) ow) (gw ?_)
 refine z7 (rG (enc := p6) (encv := hv) (fun mb => (u7 en (fun w hw => hEm w (hT.at hw)) (e6 (n8 (F5 (vs := [iI gh, .map (some mb), .agg (m9 (H3 E)).toArray]) (pls := #[(0, 1), (1, 1), (2, 1056)]) uT (fun w => by kernel_rfl) ze243 rfl ⟨rfl, rfl, (by show some (2, 1056) = some (2, _); rw [o6, m7, T5]), trivial⟩ (by simp [m7, T5, vl])) (show _ = Value.agg (q7 E gh mb).toArray by simp [q7, vl])) (gw ?_)))))
 intro b15
 refine gw ?_
 refine a9 (finQ.ret rv sr ?_)
 exact ⟨b15, mb, rfl, rfl⟩
theorem lP (E : Nat → i6) (tb mb gh : Nat) (ms : Tm) (l p : Nat) (ho : N0 gh (l, p)) (hh : gh ≤ 32) (w0) (hB : Ro w0 [] (Blk tb 243 (q7 E gh mb))) (hM : Ro w0 [] (u6 mb p6 hv (ms))) :
  cP 141 #[pZ tb, iI l, uI p] w0 fun v L => v = .tuple #[hv (s4 E ms (l, p)), .nilIface] ∧ L = [] := by
 refine co 27 [.cell 6 49, .tmp 7] func141 ?_
 refine gw ?_
 intro b6
 refine gw ?_
 refine e6 (A5 (v := p6 (l, p)) (a := iI l) (b := uI p) rfl rfl (buildAt (l) (p))) (u7 en (fun w hw => IW E tb mb gh l p hh ho w (Rd.ro hB w hw)) (gw ?_))
 refine e6 (A5 (v := p6 (l, p)) (a := iI l) (b := uI p) rfl rfl (buildAt (l) (p))) (u7 en (fun w hw => yY E tb mb gh ms l p (aX hh ho).1 w (Rd.ro hB w hw) (Rd.ro hM w hw)) (j9 rfl (W9 _ rfl (gw ?_))))
 refine a9 (finQ.ret (j7 rfl (i4 w5 rT (o5 ce49)) rv) sn ?_)
 exact rr
theorem JA (E : Nat → i6) (tb mb gh : Nat) (ms : Tm) (i : Nat) (hh : gh ≤ 32) (hi : i < 2 ^ gh) (w0) (hB : Ro w0 [] (Blk tb 243 (q7 E gh mb))) (hM : Ro w0 [] (u6 mb p6 hv (ms))) : cR 138 #[pZ tb, uI i] w0 (.tuple #[hv (s4 E ms (0, i)), .nilIface]) := by
 refine cQ (co 11 [.cell 4 49, .tmp 5] func138 ?_)
 refine gw ?_
 intro b4
 refine gw ?_
 refine u7 en (fun w hw => cQ (lP E tb mb gh ms 0 i (JE hi) hh w (Rd.ro hB w hw) (Rd.ro hM w hw))) (gw ?_)
 refine j9 rfl (W9 _ rfl (gw ?_))
 refine a9 (finQ.ret (j7 rfl (i4 w5 rT (o5 ce49)) rv) sn ?_)
 exact rr
theorem M4 (E : Nat → i6) (tb mb gh : Nat) (w0) (hB : Ro w0 [] (Blk tb 243 (q7 E gh mb))) : cR 80 #[pZ tb] w0 (iI gh) := by
 refine cQ (co 9 [.tmp 2] func80 ?_)
 refine gw ?_
 exact tR
theorem zfI (E : Nat → i6) (tb mb gh : Nat) (ms : Tm) (i : Nat) (hh : gh ≤ 32) (hi : i < 2 ^ gh) (w0) (hB : Ro w0 [] (Blk tb 243 (q7 E gh mb))) (hM : Ro w0 [] (u6 mb p6 hv (ms))) :
  cP 153 #[pZ tb, uI i] w0 fun v L => ∃ O d, v = .tuple #[sL O gh d, .nilIface] ∧ L = [OwnA 49 32 O gh d (m9 (cB E ms gh i))] := by
 refine co 39 [.tmp 4, .tmp 5] func153 ?_
 have hi32 := HE hh hi
 refine m6 49 32 (gw ?_)
 refine e6 (A5 (v := p6 (0, i)) (a := iI (0 : Nat)) (b := uI i) rfl rfl (buildAt (0) (i))) (u7 en (fun w hw => IW E tb mb gh 0 i hh (JE hi) w (Rd.ro hB w hw)) (gw ?_))
 refine l5 (γ := Nat × y8 × Nat) (mr 23 15 [6, 7]) (fun g => [(23, iI g.1), (6, sL g.2.1 g.1 g.2.2)]) (fun g => [OwnA 49 32 g.2.1 g.1 g.2.2 (m9 (cB E ms g.1 i))]) (fun g => g.1 ≤ gh) (fun g => gh - g.1) ((0, none, 0))
  (Nat.zero_le _) oa sr ?_
 rintro ⟨k, O, d⟩ u hk
 dsimp only at hk
 have hd1 := Nat.div_le_self i (2 ^ k)
 refine gw ?_
 refine j0 rfl rfl (p9 rfl rfl) (fun h24 => gw ?_) (fun h24 => gw ?_)
 ·refine e6 (G5 rfl rfl km) (e6 (nW (b := 1) rfl rfl km km) (e6 (A5 (v := p6 (k, (i / 2 ^ k) ^^^ 1)) (a := iI k) (b := uI ((i / 2 ^ k) ^^^ 1 : Nat)) rfl rfl (buildAt (k) ((i / 2 ^ k) ^^^ 1))) (u7 en (fun w hw => yY E tb mb gh ms k ((i / 2 ^ k) ^^^ 1) ow w (Rd.ro hB w hw) (Rd.ro hM w hw)) (z7 (m5 (v := hv (s4 E ms (k, (i / 2 ^ k) ^^^ 1))) uT elem49 dc rfl (v9 _) (fun g35 => (z7 (G1 (news := L8 (s4 E ms (k, (i / 2 ^ k) ^^^ 1))) uT elem49 rfl rfl (j8 (cs := L8 (s4 E ms (k, (i / 2 ^ k) ^^^ 1))) w5) (by rw [l6]) (r9 _) kx ow (fun O' d' => (gw ?_))))))))))
  exact ⟨(k + 1, O', d'), od, od, oz, (by dsimp only; rw [zdY]; exact sd sr)⟩
 ·refine i7 (c8 (gw ?_))
  refine a9 (finQ.ret rv sr ?_)
  obtain rfl : k = gh := by omega
  exact ⟨O, d, rfl, rfl⟩
theorem wB {α : Type} (F : α → i6) (d : α) {s : List α} {k : Nat} (h : k < s.length) : m9 ((s.take k).map F) ++ L8 (F (s.getD k d)) = m9 ((s.take (k + 1)).map F) := by
 have e : s.take (k + 1) = s.take k ++ [s.getD k d] := by
  rw [List.take_succ_eq_append_getElem h]; simp [List.getD, h]
 rw [e, List.map_append, M3, List.map_singleton, N6, iZ, List.append_nil]
theorem zcZ (l p x lb pb : Nat) (hl : l < 32) (hp : p < 4294967296) (hx : x < 18446744073709551616) (w0) (hV : Ro w0 [] (Blk lb 3 [iI ↑(l + 1)])) (hP : Ro w0 [] (Blk pb 40 [uI p])) :
  cP 204 #[uI x, pZ lb, pZ pb] w0 fun v L => v = .bool (decide (x / 2 ^ l ≠ 2 * p)) ∧ L = [] := by
 refine co 12 [.tmp 4] func204 ?_
 refine gw ?_
 refine dr ([], []) (gw ?_)
 refine c6 2 rfl (n8 (o7 (a := l + 1) (b := 1) rfl rfl ow km) (by rw [Nat.add_sub_cancel])) (c6 3 rfl (G5 rfl rfl km) (gw ?_))
 refine c6 5 rfl (F3 (a := 2) rfl rfl km) (c6 6 rfl (C7 rfl rfl) (gw ?_))
 exact p7 (tR)
theorem qH (fn : FuncId) (cp : Array Value) (q : Nat → Bool) (hent : p8 prog fn) (A) (c : Nat) (xs : List Nat) (hn : xs.length ≤ 256) (w0) (hR : Ro w0 [] (SlA A (w6 xs))) (hf : ∀ x ∈ xs, ∀ w, St w0 [] [] w → cR fn ((([uI x] : List Value) ++ cp.toList).toArray) w (.bool (q x))) :
  cP 191 #[sL A xs.length c, .func (.func fn) #[] cp] w0 fun v L => ∃ z : Int, v = iI z ∧ L = [] ∧ FoundI xs q z := by
 refine co 19 [.tmp 4] func191 ?_
 refine gw ?_
 refine l5 (γ := Nat) (mr 8 11 [4, 5]) (fun k => [(8, iI k)]) (fun _ => _) (fun k => k ≤ xs.length ∧ ∀ j, j < k → q (xs.getD j 0) = false) (fun k => xs.length - k) (0)
  ⟨Nat.zero_le _, fun j h => absurd h (Nat.not_lt_zero _)⟩ oa sr ?_
 rintro k u ⟨hk, hq⟩
 refine gw ?_
 refine j0 rfl rfl (p9 rfl rfl) (fun h9 => gw ?_) (fun h9 => gw ?_)
 ·refine e6 (i5 uT cT rfl rfl ow (c9 hR) (by rw [D5]; omega)) (e6 (a8 rfl (A9 (v := uI ↑(xs.getD k 0)) (c9 hR) oT (F6 h9))) (z7 (R1 hent rfl (fun w hw => hf _ (E6 0 h9) w hw) (gw ?_))))
  refine eK rfl (fun b16 => ?_) (fun b16 => ?_)
  ·refine gw ?_
   refine a9 (fR ?_)
   exact ⟨_, rfl, rfl, fun h => by omega, fun _ => ⟨k, rfl, h9, hq, b16⟩⟩
  ·refine gw ?_
   refine ⟨k + 1, ?_, od, oz, sr⟩
   exact ⟨by show _ ≤ _; omega, fun j hj => (Nat.lt_or_ge j k).elim (hq j) (fun h => by (obtain rfl : j = k := by omega); exact b16)⟩
 ·refine i7 (c8 (gw ?_))
  refine a9 (fR ?_)
  exact ⟨_, rfl, rfl, fun _ j hj => hq j ow, fun h => absurd dc h⟩
theorem xQ (gh l p : Nat) (hh : gh ≤ 32) (ho : N0 gh (l + 1, p)) (A) (c : Nat) (xs : List Nat) (hs : xs.Pairwise (· < ·)) (hx : ∀ x ∈ xs, x / 2 ^ (l + 1) = p) (hc : xs.length ≤ c) (hn : xs.length ≤ 256) (w0) (hR : Ro w0 [] (SlA A (w6 xs))) :
  cP 187 #[sL A xs.length c, iI ↑(l + 1), uI p] w0 fun v L => ∃ A' c', v = .tuple #[sL A (n6 xs l (2 * p)).length c, sL A' (n6 xs l (2 * p + 1)).length c'] ∧ L = [] ∧ (n6 xs l (2 * p + 1)).length ≤ c' ∧ ∀ w M, Ro w M (SlA A (w6 xs)) → Ro w M (SlA A (w6 (n6 xs l (2 * p)))) ∧ Ro w M (SlA A' (w6 (n6 xs l (2 * p + 1)))) := by
 refine co 21 [.tmp 6, .tmp 7] func187 ?_
 obtain ⟨hl32, hp32⟩ := aX hh ho
 refine gw ?_
 intro b4
 refine gw ?_
 intro b5
 refine gw ?_
 refine e6 (E9 (fs := []) (cs := [pZ b4, pZ b5]) rfl rfl) (z9 en (fun w hw => qH 204 #[pZ b4, pZ b5] (fun x => decide (x / 2 ^ l ≠ 2 * p)) en A c xs hn w (Rd.ro hR w hw) (fun x hm w' hw' => cQ (zcZ l p x b4 b5 ow hp32 (by have := zeH hh ho (hx x hm); omega) w' ((Rd.at 1 rfl w hw).go hw' nb) ((Rd.at 0 rfl w hw).go hw' nb)))) ?_)
 rintro v L' ⟨z, rfl, rfl, hz⟩
 refine gw ?_
 refine j0 rfl rfl (iU rfl rfl) (fun h13 => gw ?_) (fun h13 => gw ?_)
 ·refine a9 (fR ?_)
  obtain ⟨e1, e2⟩ := FA (i := xs.length) hs hx (fun j hj => Decidable.not_not.1 (of_decide_eq_false (hz.no h13 j hj))) (fun h => absurd h (Nat.lt_irrefl _))
  rw [List.take_length] at e1
  rw [List.drop_length] at e2
  exact ⟨none, 0, by rw [← e1, ← e2]; rfl, rfl, by rw [← e2]; exact Nat.le_refl _, fun w M h => by rw [← e1, ← e2]; exact ⟨h, zgw w M none⟩⟩
 ·refine dw ([], []) ?_
  obtain ⟨i, rfl, hi, hq1, hq2⟩ := hz.yes h13
  obtain ⟨e1, e2⟩ := FA (i := i) hs hx (fun j hj => Decidable.not_not.1 (of_decide_eq_false (hq1 j hj))) (fun _ => of_decide_eq_true hq2)
  have hi2 : (xs.take i).length = i := by rw [List.length_take]; omega
  refine gw ?_
  refine c6 2 rfl (T3 uT cT rfl rfl ow) (gw ?_)
  refine c6 5 rfl (D3 uT cT rfl rfl ow) (gw ?_)
  refine p7 (a9 (fR ?_))
  exact ⟨if c = i then A else A.map (·.add (i * 1)), c - i, by rw [← e1, ← e2, hi2, List.length_drop]; rfl, rfl, by rw [← e2, List.length_drop]; omega, fun w M h => by
    rw [← e1, ← e2, ← zgi, ← zgg]
    exact ⟨h.take i, by have h2 := h.cut (c := c) (l := i) (k := i) (fun e => by rw [D5]; omega); rw [Nat.mul_one]; exact h2⟩⟩
theorem yQ (fn : FuncId) (cp : Array Value) (hent : p8 prog fn) (gh : Nat) (hh : gh ≤ 32) (J : Sd → List Assn → Prop) (W) (M : List Nat) (B : Nat) (hf : JT prog fn cp gh J W M B) (l : Nat) (p : Nat) (xs : List Nat) (A) (c : Nat) (done : Sd) (L0 : List Assn) (w0) (ho : N0 gh (l, p)) (hs : xs.Pairwise (· < ·)) (hx : ∀ x ∈ xs, x / 2 ^ (l) = p) (hc : xs.length ≤ c) (hn : xs.length ≤ 256) (h0 : Sat w0 L0) (hR : Ro w0 (A8 L0) (SlA A (w6 xs))) (hJ : J done L0) (hst : St W M L0 w0) (hB : done.length + (l7 (l) xs p).length ≤ B) (he : xs = []) :
  Calls prog 139 #[sL A xs.length c, iI l, uI p, .func (.func fn) #[] cp] w0 (D0 w0 (A8 L0) fun v L => J (done ++ l7 (l) xs p) L) := by
 refine gW (L := L0) 43 [] func139 h0 ?_
 subst he
 rw [aG, List.length_singleton] at hB
 rw [aG]
 refine gw ?_
 refine e6 (Qt.dT (z6 (b := 0) rfl rfl) (rfl)) (gw ?_)
 refine z7 (l8 (Pre := L0) (R := []) hent rfl ((wN _)) (fun w hw => hf (l, p) done L0 w ho ow hJ (hst.next (xS hw))) ?_)
 rintro v L1 hJ1
 rw [List.append_nil]
 refine gw ?_
 exact finQ.normal n9 sr (hJ1)
theorem zeI (fn : FuncId) (cp : Array Value) (hent : p8 prog fn) (gh : Nat) (hh : gh ≤ 32) (J : Sd → List Assn → Prop) (W) (M : List Nat) (B : Nat) (hf : JT prog fn cp gh J W M B) (p : Nat) (xs : List Nat) (A) (c : Nat) (done : Sd) (L0 : List Assn) (w0) (ho : N0 gh (0, p)) (hs : xs.Pairwise (· < ·)) (hx : ∀ x ∈ xs, x / 2 ^ (0) = p) (hc : xs.length ≤ c) (hn : xs.length ≤ 256) (h0 : Sat w0 L0) (hR : Ro w0 (A8 L0) (SlA A (w6 xs))) (hJ : J done L0) (hst : St W M L0 w0) (hB : done.length + (l7 (0) xs p).length ≤ B) (he : xs ≠ []) :
  Calls prog 139 #[sL A xs.length c, iI (0 : Nat), uI p, .func (.func fn) #[] cp] w0 (D0 w0 (A8 L0) fun v L => J (done ++ l7 (0) xs p) L) := by
 refine gW (L := L0) 43 [] func139 h0 ?_
 have hpos := List.length_pos_iff.2 he
 refine gw ?_
 refine e6 (Qt.dF (z6 (b := 0) rfl rfl) ow) (gw ?_)
 refine e6 (Qt.dF (M0 (b := 0) rfl rfl) ow) (gw ?_)
 refine finQ.normal n9 sr ?_
 rw [jQ he, List.append_nil]
 exact hJ
theorem zeJ (fn : FuncId) (cp : Array Value) (hent : p8 prog fn) (gh : Nat) (hh : gh ≤ 32) (J : Sd → List Assn → Prop) (W) (M : List Nat) (B : Nat) (hf : JT prog fn cp gh J W M B) (l : Nat) (hrec : KW prog 139 fn cp gh J W M B l) (p : Nat) (xs : List Nat) (A) (c : Nat) (done : Sd) (L0 : List Assn) (w0) (ho : N0 gh (l + 1, p)) (hs : xs.Pairwise (· < ·)) (hx : ∀ x ∈ xs, x / 2 ^ (l + 1) = p) (hc : xs.length ≤ c) (hn : xs.length ≤ 256) (h0 : Sat w0 L0) (hR : Ro w0 (A8 L0) (SlA A (w6 xs))) (hJ : J done L0) (hst : St W M L0 w0) (hB : done.length + (l7 (l + 1) xs p).length ≤ B) (he : xs ≠ []) :
  Calls prog 139 #[sL A xs.length c, iI ↑(l + 1), uI p, .func (.func fn) #[] cp] w0 (D0 w0 (A8 L0) fun v L => J (done ++ l7 (l + 1) xs p) L) := by
 refine gW (L := L0) 43 [] func139 h0 ?_
 have hpos := List.length_pos_iff.2 he
 obtain ⟨hl32, hp32⟩ := aX hh ho
 obtain ⟨okl, okr⟩ := bG ho
 rw [W7 he, List.length_append] at hB
 rw [W7 he, ← List.append_assoc]
 have hcl := eP xs l (2 * p)
 have hcr := eP xs l (2 * p + 1)
 refine gw ?_
 refine e6 (Qt.dF (z6 (b := 0) rfl rfl) ow) (gw ?_)
 refine e6 (Qt.dT (M0 (b := 0) rfl rfl) ow) (gw ?_)
 refine z9 en (fun w hw => xQ gh l p hh ho A c xs hs hx hc hn w (Rd.ro hR w hw)) ?_
 rintro v L' ⟨A', c', rfl, rfl, hc', hro⟩
 refine gw ?_
 refine e6 (n8 (o7 (a := l + 1) (b := 1) rfl rfl ow km) (by rw [Nat.add_sub_cancel])) (gw ?_)
 refine e6 (F3 (a := 2) rfl rfl km) (gw ?_)
 refine z7 (l8 (Pre := L0) (R := []) en rfl ((wN _)) (fun w hw => hrec (2 * p) (n6 xs l (2 * p)) A c done L0 w okl (eB hs) cZ ow ow (xS hw).sat (hro w _ (u5 hw hR)).1 hJ (hst.next (xS hw)) ow) ?_)
 rintro v L1 hJ1
 rw [List.append_nil]
 refine gw ?_
 refine e6 (n8 (o7 (a := l + 1) (b := 1) rfl rfl ow km) (by rw [Nat.add_sub_cancel])) (gw ?_)
 refine e6 (F3 (a := 2) rfl rfl km) (gw ?_)
 refine z7 (l8 (Pre := L1) (R := []) en rfl ((wN _)) (fun w hw => hrec (2 * p + 1) (n6 xs l (2 * p + 1)) A' c' (done ++ l7 l (n6 xs l (2 * p)) (2 * p)) L1 w okr (eB hs) cZ hc' ow (xS hw).sat (hro w _ (u5 hw hR)).2 hJ1 (hst.next (xS hw)) (by rw [List.length_append]; omega)) ?_)
 rintro v L2 hJ2
 rw [List.append_nil]
 refine gw ?_
 exact finQ.normal n9 sr (hJ2)
theorem IR (fn : FuncId) (cp : Array Value) (hent : p8 prog fn) (gh : Nat) (hh : gh ≤ 32) (J : Sd → List Assn → Prop) (W) (M : List Nat) (B : Nat) (hf : JT prog fn cp gh J W M B) : ∀ l, l ≤ gh → KW prog 139 fn cp gh J W M B l
 | 0, hl => fun p xs A c done L0 w0 ho hs hx hc hn h0 hR hJ hst hB => by
  by_cases he : xs = []
  ·exact yQ fn cp hent gh hh J W M B hf 0 p xs A c done L0 w0 ho hs hx hc hn h0 hR hJ hst hB he
  ·exact zeI fn cp hent gh hh J W M B hf p xs A c done L0 w0 ho hs hx hc hn h0 hR hJ hst hB he
 | l + 1, hl => fun p xs A c done L0 w0 ho hs hx hc hn h0 hR hJ hst hB => by
  by_cases he : xs = []
  ·exact yQ fn cp hent gh hh J W M B hf (l + 1) p xs A c done L0 w0 ho hs hx hc hn h0 hR hJ hst hB he
  ·exact zeJ fn cp hent gh hh J W M B hf l (IR fn cp hent gh hh J W M B hf l ow) p xs A c done L0 w0 ho hs hx hc hn h0 hR hJ hst hB he
theorem zW (gh : Nat) (hh : gh ≤ 32) (A) (c : Nat) (xs : List Nat) (w0) (lw : lW xs) (hR : Ro w0 [] (SlA A (w6 xs))) : cR 41 #[iI gh, sL A xs.length c] w0 (.bool (decide (idxOk gh xs))) := by
 refine cQ (co 48 [.tmp 4] func41 ?_)
 refine gw ?_
 refine j0 rfl rfl (p9 (b := 0) rfl rfl) (fun h8 => gw ?_) (fun h8 => gw ?_)
 ·refine a9 (fR ?_)
  first
   | exact ⟨(dF (fun h => by have h1 := h.1; have h2 := h.2.1; omega)).symm, rfl⟩
   | exact ⟨(dF (fun h => by have h3 := (h.2.2 k ow).1; exact (fun h4 => h33 (Nat.div_eq_of_lt h4)) h3)).symm, rfl⟩
   | exact ⟨(dF (fun h => by have h3 := (h.2.2 k ow).2 ow; omega)).symm, rfl⟩
   | exact ⟨(dT ⟨by omega, by omega, by (obtain rfl : k = xs.length := by omega); exact hto⟩).symm, rfl⟩
 ·refine E8 rfl rfl rfl (Qt.dF (M0 (b := 32) rfl rfl) ow) (gw ?_)
  refine D9 rfl rfl rfl (p9 (b := 1) rfl rfl) (fun h16 => gw ?_) (fun h16 => gw ?_)
  ·refine a9 (fR ?_)
   first
    | exact ⟨(dF (fun h => by have h1 := h.1; have h2 := h.2.1; omega)).symm, rfl⟩
    | exact ⟨(dF (fun h => by have h3 := (h.2.2 k ow).1; exact (fun h4 => h33 (Nat.div_eq_of_lt h4)) h3)).symm, rfl⟩
    | exact ⟨(dF (fun h => by have h3 := (h.2.2 k ow).2 ow; omega)).symm, rfl⟩
    | exact ⟨(dT ⟨by omega, by omega, by (obtain rfl : k = xs.length := by omega); exact hto⟩).symm, rfl⟩
  ·refine D9 rfl rfl rfl (M0 (b := 256) rfl rfl) (fun h21 => gw ?_) (fun h21 => gw ?_)
   ·refine a9 (fR ?_)
    first
     | exact ⟨(dF (fun h => by have h1 := h.1; have h2 := h.2.1; omega)).symm, rfl⟩
     | exact ⟨(dF (fun h => by have h3 := (h.2.2 k ow).1; exact (fun h4 => h33 (Nat.div_eq_of_lt h4)) h3)).symm, rfl⟩
     | exact ⟨(dF (fun h => by have h3 := (h.2.2 k ow).2 ow; omega)).symm, rfl⟩
     | exact ⟨(dT ⟨by omega, by omega, by (obtain rfl : k = xs.length := by omega); exact hto⟩).symm, rfl⟩
   ·refine l5 (γ := Nat) (mr 25 23 [4, 5, 6]) (fun k => [(25, iI k)]) (fun _ => _) (fun k => k ≤ xs.length ∧ sC gh xs k) (fun k => xs.length - k) (0)
     ⟨Nat.zero_le _, vQ gh xs⟩ oa sr ?_
    rintro k u ⟨hk, hto⟩
    refine gw ?_
    refine j0 rfl rfl (p9 rfl rfl) (fun h26 => gw ?_) (fun h26 => gw ?_)
    ·refine e6 (i5 uT cT rfl rfl ow (c9 hR) (by rw [D5]; omega)) (e6 (a8 rfl (A9 (v := uI ↑(xs.getD (k) 0)) (c9 hR) oT (F6 ow))) (gw ?_))
     refine e6 (G5 rfl rfl (by have := lw _ (E6 (k := k) 0 h26); simp only [H1]; omega)) (j0 rfl rfl (C7 (b := 0) rfl rfl) (fun h33 => gw ?_) (fun h33 => gw ?_))
     ·refine a9 (fR ?_)
      first
       | exact ⟨(dF (fun h => by have h1 := h.1; have h2 := h.2.1; omega)).symm, rfl⟩
       | exact ⟨(dF (fun h => by have h3 := (h.2.2 k ow).1; exact (fun h4 => h33 (Nat.div_eq_of_lt h4)) h3)).symm, rfl⟩
       | exact ⟨(dF (fun h => by have h3 := (h.2.2 k ow).2 ow; omega)).symm, rfl⟩
       | exact ⟨(dT ⟨by omega, by omega, by (obtain rfl : k = xs.length := by omega); exact hto⟩).symm, rfl⟩
     ·refine D9 rfl rfl rfl (M0 (b := 0) rfl rfl) (fun h36 => gw ?_) (fun h36 => gw ?_)
      ·refine E8 rfl rfl rfl (o7 (b := 1) rfl rfl ow km) (E8 rfl rfl rfl (i5 uT cT rfl rfl ow (c9 hR) (by rw [D5]; omega)) (E8 rfl rfl rfl (a8 rfl (A9 (v := uI ↑(xs.getD (k - 1) 0)) (c9 hR) oT (F6 ow))) (gw ?_)))
       refine D9 rfl rfl rfl (T0 rfl rfl) (fun h44 => gw ?_) (fun h44 => gw ?_)
       ·refine a9 (fR ?_)
        first
         | exact ⟨(dF (fun h => by have h1 := h.1; have h2 := h.2.1; omega)).symm, rfl⟩
         | exact ⟨(dF (fun h => by have h3 := (h.2.2 k ow).1; exact (fun h4 => h33 (Nat.div_eq_of_lt h4)) h3)).symm, rfl⟩
         | exact ⟨(dF (fun h => by have h3 := (h.2.2 k ow).2 ow; omega)).symm, rfl⟩
         | exact ⟨(dT ⟨by omega, by omega, by (obtain rfl : k = xs.length := by omega); exact hto⟩).symm, rfl⟩
       ·refine ⟨k + 1, ?_, od, oz, sr⟩
        exact ⟨by show _ ≤ _; omega, jA hto (wA (Decidable.not_not.1 h33)) (fun hk0 => by omega)⟩
      ·refine ⟨k + 1, ?_, od, oz, sr⟩
       exact ⟨by show _ ≤ _; omega, jA hto (wA (Decidable.not_not.1 h33)) (fun hk0 => by omega)⟩
    ·refine i7 (c8 (gw ?_))
     refine a9 (fR ?_)
     first
      | exact ⟨(dF (fun h => by have h1 := h.1; have h2 := h.2.1; omega)).symm, rfl⟩
      | exact ⟨(dF (fun h => by have h3 := (h.2.2 k ow).1; exact (fun h4 => h33 (Nat.div_eq_of_lt h4)) h3)).symm, rfl⟩
      | exact ⟨(dF (fun h => by have h3 := (h.2.2 k ow).2 ow; omega)).symm, rfl⟩
      | exact ⟨(dT ⟨by omega, by omega, by (obtain rfl : k = xs.length := by omega); exact hto⟩).symm, rfl⟩
theorem xA (z : Int) (hz : z < 0 ∨ 32 < z) (A) (c : Nat) (xs : List Nat) (w0) : cR 41 #[iI z, sL A xs.length c] w0 (.bool false) := by
 refine cQ (co 48 [.tmp 4] func41 ?_)
 refine gw ?_
 refine j0 rfl rfl (iU rfl rfl) (fun h8 => gw ?_) (fun h8 => gw ?_)
 ·exact tR
 ·refine E8 rfl rfl rfl (Qt.dT (mR rfl rfl) ow) (gw ?_)
  exact tR
theorem sY (z : Int) (hz : z < 0 ∨ 32 < z) (A) (c : Nat) (xs : List Nat) (w0) : cR 87 #[iI z, sL A xs.length c] w0 (.bool false) := by
 refine cQ (co 59 [.tmp 4] func87 ?_)
 refine gw ?_
 refine j0 rfl rfl (iU rfl rfl) (fun h9 => gw ?_) (fun h9 => gw ?_)
 ·exact tR
 ·refine E8 rfl rfl rfl (Qt.dT (mR rfl rfl) ow) (gw ?_)
  exact tR
theorem U2 (gh : Nat) (hh : gh ≤ 32) (A) (c : Nat) (xs : List Nat) (w0) (lw : lW xs) (hR : Ro w0 [] (SlA A (w6 xs))) : cR 87 #[iI gh, sL A xs.length c] w0 (.bool (decide (idxOk gh xs))) := by
 refine cQ (co 59 [.tmp 4] func87 ?_)
 have hpw : 2 ^ gh ≤ 4294967296 := (show 2 ^ gh ≤ 2 ^ 32 from Nat.pow_le_pow_right dc hh)
 refine gw ?_
 refine e6 (Qt.dF (p9 (b := 0) rfl rfl) ow) (gw ?_)
 refine E8 rfl rfl rfl (Qt.dF (M0 (b := 32) rfl rfl) ow) (gw ?_)
 refine D9 rfl rfl rfl (z6 (b := 0) rfl rfl) (fun h17 => gw ?_) (fun h17 => gw ?_)
 ·refine a9 (fR ?_)
  first
   | exact ⟨(dF (fun h => by have h1 := h.1; have h2 := h.2.1; omega)).symm, rfl⟩
   | exact ⟨(dF (fun h => by have h3 := (h.2.2 k ow).1; exact (fun h4 => by omega) h3)).symm, rfl⟩
   | exact ⟨(dF (fun h => by have h3 := (h.2.2 k ow).2 ow; omega)).symm, rfl⟩
   | exact ⟨(dT ⟨by omega, by omega, by (obtain rfl : k = xs.length := by omega); exact hto⟩).symm, rfl⟩
 ·refine D9 rfl rfl rfl (M0 (b := 256) rfl rfl) (fun h22 => gw ?_) (fun h22 => gw ?_)
  ·refine a9 (fR ?_)
   first
    | exact ⟨(dF (fun h => by have h1 := h.1; have h2 := h.2.1; omega)).symm, rfl⟩
    | exact ⟨(dF (fun h => by have h3 := (h.2.2 k ow).1; exact (fun h4 => by omega) h3)).symm, rfl⟩
    | exact ⟨(dF (fun h => by have h3 := (h.2.2 k ow).2 ow; omega)).symm, rfl⟩
    | exact ⟨(dT ⟨by omega, by omega, by (obtain rfl : k = xs.length := by omega); exact hto⟩).symm, rfl⟩
  ·refine l5 (γ := Nat) (mr 24 7 [5, 6]) (fun j => [(6, iI j), (5, uI (2 ^ j : Nat))]) (fun _ => _) (fun j => j ≤ gh) (fun j => gh - j) (0)
    (Nat.zero_le _) oa sr ?_
   rintro j u hj
   refine gw ?_
   refine j0 rfl rfl (p9 rfl rfl) (fun h26 => ?_) (fun h26 => ?_)
   ·have hm : 2 ^ j < 4294967296 := Nat.lt_of_lt_of_le (Nat.pow_lt_pow_right dc (show j < 32 by omega)) dc
    refine gw ?_
    refine e6 (F3 (b := 2) rfl rfl km) (gw ?_)
    refine ⟨j + 1, ?_, ?_, ⟨?_, (fm rfl (fm (by show uI (2 ^ j * 2 : Nat) = uI (2 ^ (j + 1) : Nat); rw [Nat.pow_succ]) nb))⟩, sr⟩
    ·show _ ≤ _; omega
    ·show _ < _; dsimp only; omega
    exact K8
   ·refine gw ?_
    refine i7 (c8 (c8 (c7 (C3 (l3 (C5 ?_))))))
    obtain rfl : j = gh := by omega
    refine l5 (γ := Nat) (mr 31 28 [4, 7]) (fun k => [(7, iI k)]) (fun _ => _) (fun k => k ≤ xs.length ∧ sC j xs k) (fun k => xs.length - k) (0)
     ⟨Nat.zero_le _, vQ j xs⟩ oa sr ?_
    rintro k u ⟨hk, hto⟩
    refine gw ?_
    refine j0 rfl rfl (p9 rfl rfl) (fun h34 => gw ?_) (fun h34 => gw ?_)
    ·refine dr ([], []) (gw ?_)
     refine c6 2 rfl (i5 uT cT rfl rfl ow (c9 hR) (by rw [D5]; omega)) (c6 3 rfl (a8 rfl (A9 (v := uI ↑(xs.getD (k) 0)) (c9 hR) oT (F6 ow))) (gw ?_))
     refine aY (k := 5) rfl kr kr kr rfl rfl (T0 rfl rfl) (fun h42 => gw ?_) (fun h42 => gw ?_)
     ·refine p7 (gw ?_)
      refine a9 (fR ?_)
      first
       | exact ⟨(dF (fun h => by have h1 := h.1; have h2 := h.2.1; omega)).symm, rfl⟩
       | exact ⟨(dF (fun h => by have h3 := (h.2.2 k ow).1; exact (fun h4 => by omega) h3)).symm, rfl⟩
       | exact ⟨(dF (fun h => by have h3 := (h.2.2 k ow).2 ow; omega)).symm, rfl⟩
       | exact ⟨(dT ⟨by omega, by omega, by (obtain rfl : k = xs.length := by omega); exact hto⟩).symm, rfl⟩
     ·refine dN (k := 8) rfl kr kr kr rfl rfl rfl (M0 (b := 0) rfl rfl) (fun h45 => gw ?_) (fun h45 => gw ?_)
      ·refine C2 12 rfl rfl (i5 uT cT rfl rfl ow (c9 hR) (by rw [D5]; omega)) (C2 13 rfl rfl (a8 rfl (A9 (v := uI ↑(xs.getD (k) 0)) (c9 hR) oT (F6 ow))) (gw ?_))
       refine C2 16 rfl rfl (o7 (b := 1) rfl rfl ow km) (C2 17 rfl rfl (i5 uT cT rfl rfl ow (c9 hR) (by rw [D5]; omega)) (C2 18 rfl rfl (a8 rfl (A9 (v := uI ↑(xs.getD (k - 1) 0)) (c9 hR) oT (F6 ow))) (dN (k := 19) rfl kr kr kr rfl rfl rfl (bM rfl rfl) (fun h56 => gw ?_) (fun h56 => gw ?_))))
       ·refine p7 (gw ?_)
        refine a9 (fR ?_)
        first
         | exact ⟨(dF (fun h => by have h1 := h.1; have h2 := h.2.1; omega)).symm, rfl⟩
         | exact ⟨(dF (fun h => by have h3 := (h.2.2 k ow).1; exact (fun h4 => by omega) h3)).symm, rfl⟩
         | exact ⟨(dF (fun h => by have h3 := (h.2.2 k ow).2 ow; omega)).symm, rfl⟩
         | exact ⟨(dT ⟨by omega, by omega, by (obtain rfl : k = xs.length := by omega); exact hto⟩).symm, rfl⟩
       ·refine p7 (gw ?_)
        refine ⟨k + 1, ?_, od, oz, sr⟩
        exact ⟨by show _ ≤ _; omega, jA hto ow (fun hk0 => by omega)⟩
      ·refine p7 (gw ?_)
       refine ⟨k + 1, ?_, od, oz, sr⟩
       exact ⟨by show _ ≤ _; omega, jA hto ow (fun hk0 => by omega)⟩
    ·refine i7 (c8 (gw ?_))
     refine a9 (fR ?_)
     first
      | exact ⟨(dF (fun h => by have h1 := h.1; have h2 := h.2.1; omega)).symm, rfl⟩
      | exact ⟨(dF (fun h => by have h3 := (h.2.2 k ow).1; exact (fun h4 => by omega) h3)).symm, rfl⟩
      | exact ⟨(dF (fun h => by have h3 := (h.2.2 k ow).2 ow; omega)).symm, rfl⟩
      | exact ⟨(dT ⟨by omega, by omega, by (obtain rfl : k = xs.length := by omega); exact hto⟩).symm, rfl⟩
theorem aD (gh : Nat) (hh : gh ≤ 32) (A) (c : Nat) (xs : List Nat) (hi : idxOk gh xs) (w0) (lw : lW xs) (hR : Ro w0 [] (SlA A (w6 xs))) : cR 41 #[iI gh, sL A xs.length c] w0 (.bool true) := by
 have h := zW gh hh A c xs w0 lw hR
 rwa [decide_eq_true hi] at h
theorem eD (gh : Nat) (hh : gh ≤ 32) (A) (c : Nat) (xs : List Nat) (hi : ¬ idxOk gh xs) (w0) (lw : lW xs) (hR : Ro w0 [] (SlA A (w6 xs))) : cR 41 #[iI gh, sL A xs.length c] w0 (.bool false) := by
 have h := zW gh hh A c xs w0 lw hR
 rwa [decide_eq_false hi] at h
theorem nK (gh : Nat) (hh : gh ≤ 32) (A) (c : Nat) (xs : List Nat) (hi : idxOk gh xs) (w0) (lw : lW xs) (hR : Ro w0 [] (SlA A (w6 xs))) : cR 87 #[iI gh, sL A xs.length c] w0 (.bool true) := by
 have h := U2 gh hh A c xs w0 lw hR
 rwa [decide_eq_true hi] at h
theorem zed (gh : Nat) (hh : gh ≤ 32) (A) (c : Nat) (xs : List Nat) (hi : ¬ idxOk gh xs) (w0) (lw : lW xs) (hR : Ro w0 [] (SlA A (w6 xs))) : cR 87 #[iI gh, sL A xs.length c] w0 (.bool false) := by
 have h := U2 gh hh A c xs w0 lw hR
 rwa [decide_eq_false hi] at h
theorem zhc (E : Nat → i6) (tb mb gh : Nat) (ms : Tm) (hh : gh ≤ 32) (tv eb ob : Nat) (done : Sd) (hl : done.length ≤ 16384) (O) (d : Nat) (l p : Nat) (ho : N0 gh (l, p)) (w0) (hL : Sat w0 [Blk ob 33 [sL O done.length d], OwnA 49 32 O (done).length d (m9 ((done).map (fun a => s4 E ms a)))]) (hB : Ro w0 (A8 [Blk ob 33 [sL O done.length d], OwnA 49 32 O (done).length d (m9 ((done).map (fun a => s4 E ms a)))]) (Blk tb 243 (q7 E gh mb))) (hM : Ro w0 (A8 [Blk ob 33 [sL O done.length d], OwnA 49 32 O (done).length d (m9 ((done).map (fun a => s4 E ms a)))]) (u6 mb p6 hv (ms))) (hV : Ro w0 (A8 [Blk ob 33 [sL O done.length d], OwnA 49 32 O (done).length d (m9 ((done).map (fun a => s4 E ms a)))]) (Blk tv 155 [pZ tb])) :
  Calls prog 140 #[iI l, uI p, pZ tv, pZ eb, pZ ob] w0 (D0 w0 (A8 [Blk ob 33 [sL O done.length d], OwnA 49 32 O (done).length d (m9 ((done).map (fun a => s4 E ms a)))]) fun v L => ∃ O2 d2, L = [Blk ob 33 [sL O2 (done ++ [(l, p)]).length d2], OwnA 49 32 O2 (done ++ [(l, p)]).length d2 (m9 ((done ++ [(l, p)]).map (fun a => s4 E ms a)))]) := by
 refine gW (L := [Blk ob 33 [sL O done.length d], OwnA 49 32 O (done).length d (m9 ((done).map (fun a => s4 E ms a)))]) 23 [] func140 hL ?_
 refine gw ?_
 refine u7 en (fun w hw => cQ (lP E tb mb gh ms l p ho hh w (Rd.ro hB w hw) (Rd.ro hM w hw))) (gw ?_)
 intro b7
 refine j9 rfl (W9 _ rfl (gw ?_))
 refine z7 (m5 (v := hv (s4 E ms (l, p))) uT elem49 dc rfl (v9 _) (fun g21 => (z7 (S9 (news := L8 (s4 E ms (l, p))) uT elem49 rfl rfl (j8 (cs := L8 (s4 E ms (l, p))) w5) (by rw [l6]) (r9 _) kx ow (fun O2 d2 => (j9 rfl (K9 rfl cw (by exact ce33) (by rfl) (by rfl) (gw ?_))))))))
 refine finQ.normal n9 (sx [2, 2]) ?_
 refine ⟨O2, d2, ?_⟩
 simp only [s9, List.map_append, M3, List.map_cons, List.map_nil, N6, iZ, List.append_nil]
 rfl
theorem zgO (nbq m l p : Nat) (hm : m ≤ 16384) (w0) (hL : Sat w0 [Blk nbq 3 [iI m]]) :
  Calls prog 213 #[iI l, uI p, pZ nbq] w0 (D0 w0 (A8 [Blk nbq 3 [iI m]]) fun v L => L = [Blk nbq 3 [iI ↑(m + 1)]]) := by
 refine gW (L := [Blk nbq 3 [iI m]]) 7 [] func213 hL ?_
 refine gw ?_
 refine j9 rfl (j5 rfl cw (by exact ce3) (by rfl) (by rfl) (gw ?_))
 refine finQ.normal n9 sr ?_
 rfl
theorem sD (E : Nat → i6) (tb mb gh : Nat) (ms : Tm) (hh : gh ≤ 32) (A) (c : Nat) (xs : List Nat) (hc : xs.length ≤ c) (hi : idxOk gh xs) (w0) (hB : Ro w0 [] (Blk tb 243 (q7 E gh mb))) (hM : Ro w0 [] (u6 mb p6 hv (ms))) (lw : lW xs) (hR : Ro w0 [] (SlA A (w6 xs))) :
  cP 83 #[pZ tb, sL A xs.length c] w0 fun v L => ∃ O d, v = .tuple #[sL O (l7 gh xs 0).length d, .nilIface] ∧ L = [OwnA 49 32 O (l7 gh xs 0).length d (m9 ((l7 gh xs 0).map (fun a => s4 E ms a)))] := by
 refine co 28 [.tmp 4, .tmp 5] func83 ?_
 have hsp : (l7 gh xs 0).length ≤ 8193 := by have h1 := eG gh xs 0; have h2 : xs.length * gh ≤ 256 * 32 := Nat.mul_le_mul hi.2.1 hh; omega
 refine m6 49 32 (gw ?_)
 intro b2
 refine gw ?_
 refine u7 en (fun w hw => M4 E tb mb gh w (Rd.ro hB w hw)) (gw ?_)
 refine u7 en (fun w hw => aD gh hh A c xs hi w lw (Rd.ro hR w hw)) (gw ?_)
 intro b6
 refine gw ?_
 intro b7
 refine gw ?_
 refine u7 en (fun w hw => M4 E tb mb gh w (Rd.ro hB w hw)) (e6 (E9 (fs := []) (cs := [pZ b2, pZ b7, pZ b6]) rfl rfl) (z7 (l8 (Pre := [Blk b6 33 [sL none ([] : Sd).length 0], OwnA 49 32 none (([] : Sd)).length 0 (m9 ((([] : Sd)).map (fun a => s4 E ms a)))]) (R := _) en rfl (pm1.trans (pc pm2)) (fun w hw => IR 140 #[pZ b2, pZ b7, pZ b6] en gh hh (fun done L => ∃ O d, L = [Blk b6 33 [sL O done.length d], OwnA 49 32 O (done).length d (m9 ((done).map (fun a => s4 E ms a)))]) w (A8 [Blk b6 33 [sL none ([] : Sd).length 0], OwnA 49 32 none (([] : Sd)).length 0 (m9 ((([] : Sd)).map (fun a => s4 E ms a)))]) (l7 gh xs 0).length (fun a done L w' ho hlt hJ hst => by obtain ⟨O, d, rfl⟩ := hJ; exact (zhc E tb mb gh ms hh b2 b7 b6 done ow O d a.1 a.2 ho w' hst.sat (u5 (R := []) (by rw [List.append_nil]; exact hst) (u5 hw hB)) (u5 (R := []) (by rw [List.append_nil]; exact hst) (u5 hw hM)) (u5 (R := []) (by rw [List.append_nil]; exact hst) (y9 hw (List.mem_of_getElem? (i := 1) rfl)))).mono fun e w'' ⟨v, L', q1, q2, O2, d2, q3⟩ => ⟨v, L', q1, q2, O2, d2, q3⟩) gh (Nat.le_refl _) 0 xs A c [] _ w (cE gh) hi.rise hi.root hc hi.2.1 hw.sat.left (u5 hw hR) ⟨none, 0, rfl⟩ (eJ hw.sat.left) (by rw [List.length_nil, Nat.zero_add]; exact Nat.le_refl _)) ?_)))
 rintro v L' ⟨O, d, rfl⟩
 refine gw ?_
 refine a9 (finQ.ret rv (sx [1]) ?_)
 exact ⟨O, d, rfl, rfl⟩
theorem ziz (E : Nat → i6) (tb mb gh : Nat) (ms : Tm) (hh : gh ≤ 32) (A) (c : Nat) (xs : List Nat) (hi : ¬ idxOk gh xs) (w0) (hB : Ro w0 [] (Blk tb 243 (q7 E gh mb)))  (lw : lW xs) (hR : Ro w0 [] (SlA A (w6 xs))) :
  cP 83 #[pZ tb, sL A xs.length c] w0 fun v L => v = .tuple #[sL none 0 0, .iface 73 (iI 1)] ∧ L = [] := by
 refine co 28 [.tmp 4, .tmp 5] func83 ?_
 refine gw ?_
 intro b2
 refine gw ?_
 refine u7 en (fun w hw => M4 E tb mb gh w (Rd.ro hB w hw)) (gw ?_)
 refine u7 en (fun w hw => eD gh hh A c xs hi w lw (Rd.ro hR w hw)) (gw ?_)
 exact tR
theorem gN (E : Nat → i6) (tb mb gh : Nat) (ms : Tm) (hh : gh ≤ 32) (A) (c : Nat) (xs : List Nat) (hi : idxOk gh xs) (w0) (hB : Ro w0 [] (Blk tb 243 (q7 E gh mb))) (hM : Ro w0 [] (u6 mb p6 hv (ms))) (lw : lW xs) (hR : Ro w0 [] (SlA A (w6 xs))) :
  cP 82 #[pZ tb, sL A xs.length c] w0 fun v L => ∃ O d, v = .tuple #[sL O xs.length d, .nilIface] ∧ L = [OwnA 49 32 O xs.length d (m9 (xs.map (fun x => s4 E ms (0, x))))] := by
 refine co 43 [.tmp 4, .tmp 5] func82 ?_
 have hn := hi.2.1
 refine m6 49 32 (gw ?_)
 refine u7 en (fun w hw => M4 E tb mb gh w (Rd.ro hB w hw)) (gw ?_)
 refine u7 en (fun w hw => aD gh hh A c xs hi w lw (Rd.ro hR w hw)) (gw ?_)
 refine l5 (γ := Nat × y8 × Nat) (mr 24 18 [4, 5, 6, 8, 9, 10]) (fun g => [(24, iI g.1), (6, sL g.2.1 g.1 g.2.2)]) (fun g => [OwnA 49 32 g.2.1 g.1 g.2.2 (m9 ((xs.take g.1).map (fun x => s4 E ms (0, x))))]) (fun g => g.1 ≤ xs.length) (fun g => xs.length - g.1) ((0, none, 0))
  (Nat.zero_le _) oa sr ?_
 rintro ⟨k, O, d⟩ u hk
 dsimp only at hk
 refine gw ?_
 refine j0 rfl rfl (p9 rfl rfl) (fun h25 => gw ?_) (fun h25 => gw ?_)
 ·refine e6 (i5 uT cT rfl rfl ow (c9 hR) (by rw [D5]; omega)) (e6 (a8 rfl (A9 (v := uI ↑(xs.getD (k) 0)) (c9 hR) oT (F6 ow))) (gw ?_))
  refine u7 en (fun w hw => JA E tb mb gh ms (xs.getD k 0) hh (hi.low _ (E6 0 h25)) w (Rd.ro hB w hw) (Rd.ro hM w hw)) (gw ?_)
  intro b9
  refine j9 rfl (W9 _ rfl (gw ?_))
  refine z7 (m5 (v := hv (s4 E ms (0, xs.getD k 0))) uT elem49 dc rfl (v9 _) (fun g39 => (z7 (Q1 (news := L8 (s4 E ms (0, xs.getD k 0))) uT elem49 rfl rfl (j8 (cs := L8 (s4 E ms (0, xs.getD k 0))) w5) (by rw [l6]) (r9 _) kx ow (fun O' d' => (gw ?_))))))
  exact ⟨(k + 1, O', d'), od, od, oz, (by dsimp only; rw [← wB (fun x => s4 E ms (0, x)) 0 h25]; exact sp)⟩
 ·refine i7 (c8 (gw ?_))
  refine a9 (finQ.ret rv sr ?_)
  obtain rfl : k = xs.length := by omega
  exact ⟨O, d, rfl, by rw [List.take_length]⟩
theorem iY (gh : Nat) (hh : gh ≤ 32) (A) (c : Nat) (xs : List Nat) (hc : xs.length ≤ c) (hi : idxOk gh xs) (w0) (lw : lW xs) (hR : Ro w0 [] (SlA A (w6 xs))) :
  cP 205 #[iI gh, sL A xs.length c] w0 fun v L => v = .tuple #[iI ↑((l7 gh xs 0).length), .nilIface] ∧ L = [] := by
 refine co 17 [.tmp 4, .tmp 5] func205 ?_
 have hsp : (l7 gh xs 0).length ≤ 8193 := by have h1 := eG gh xs 0; have h2 : xs.length * gh ≤ 256 * 32 := Nat.mul_le_mul hi.2.1 hh; omega
 refine gw ?_
 refine u7 en (fun w hw => aD gh hh A c xs hi w lw (Rd.ro hR w hw)) (gw ?_)
 intro b6
 refine j9 rfl (j5 rfl cw (by exact ce3) (by rfl) (by rfl) (gw ?_))
 refine e6 (E9 (fs := []) (cs := [pZ b6]) rfl rfl) (z7 (l8 (Pre := [Blk b6 3 [iI ↑(([] : Sd).length)]]) (R := _) en rfl pr (fun w hw => IR 213 #[pZ b6] en gh hh (fun done L => L = [Blk b6 3 [iI done.length]]) w (A8 [Blk b6 3 [iI ↑(([] : Sd).length)]]) (l7 gh xs 0).length (fun a done L w' ho hlt hJ hst => by subst hJ; exact (zgO b6 done.length a.1 a.2 ow w' hst.sat).mono fun e w'' ⟨v, L', q1, q2, q3⟩ => ⟨v, L', q1, q2, by show L' = [Blk b6 3 [iI ↑((done ++ [a]).length)]]; rw [s9]; exact q3⟩) gh (Nat.le_refl _) 0 xs A c [] _ w (cE gh) hi.rise hi.root hc hi.2.1 hw.sat.left (u5 hw hR) rfl (eJ hw.sat.left) (by rw [List.length_nil, Nat.zero_add]; exact Nat.le_refl _)) ?_))
 rintro v L' rfl
 refine gw ?_
 exact tR
theorem zat (z : Int) (A) (c : Nat) (xs : List Nat) (w0) (hr : ∀ w, Ro w [] (SlA A (w6 xs)) → cR 41 #[iI z, sL A xs.length c] w (.bool false)) (hR : Ro w0 [] (SlA A (w6 xs))) :
  cP 205 #[iI z, sL A xs.length c] w0 fun v L => v = .tuple #[iI 0, .iface 73 (iI 1)] ∧ L = [] := by
 refine co 17 [.tmp 4, .tmp 5] func205 ?_
 refine gw ?_
 refine u7 en (fun w hw => hr w (Rd.ro hR w hw)) (gw ?_)
 exact tR
theorem zgS {xs : List Nat} {l p k : Nat} (hk : k < xs.length) (h : xs.getD k 0 / 2 ^ l = p) : n6 xs l p ≠ [] := fun e => by
 have : xs.getD k 0 ∈ n6 xs l p := List.mem_filter.2 ⟨E6 0 hk, by simpa using h⟩
 rw [e] at this; cases this
theorem zeP {xs : List Nat} {l p : Nat} (h : ∀ j, j < xs.length → xs.getD j 0 / 2 ^ l ≠ p) : n6 xs l p = [] := lH fun x hx => by
 obtain ⟨j, hj, rfl⟩ := List.mem_iff_getElem.1 hx
 have := h j hj
 rwa [show xs.getD j 0 = xs[j] by simp [List.getD, hj]] at this
def KG (gh : Nat) (A : y8) (c : Nat) (xs : List Nat) (l : Nat) : Prop := ∀ (p : Nat) (w0 : World), N0 gh (l, p) → Ro w0 [] (SlA A (w6 xs)) →
 Calls prog 149 #[.slice A xs.length c, .int .i64 (l : Int), .int .u64 (p : Int)] w0 (D0 w0 [] fun v L => ∃ O d, v = .slice O (E0 l xs p).length d ∧ L = [OwnA 264 2 O (E0 l xs p).length d (iQ (E0 l xs p))])
theorem GG (gh l p : Nat) (hh : gh ≤ 32) (ho : N0 gh (l, p)) (A) (c : Nat) (xs : List Nat) (hn : xs.length ≤ 256) (w0) (lw : lW xs) (hR : Ro w0 [] (SlA A (w6 xs))) : cR 190 #[sL A xs.length c, iI l, uI p] w0 (.bool (decide (n6 xs l p ≠ []))) := by
 refine cQ (co 23 [.tmp 6] func190 ?_)
 obtain ⟨hl32, hp32⟩ := aX hh ho
 refine gw ?_
 refine l5 (γ := Nat) (mr 6 17 []) (fun k => [(7, iI k)]) (fun _ => _) (fun k => k ≤ xs.length ∧ ∀ j, j < k → xs.getD j 0 / 2 ^ l ≠ p) (fun k => xs.length - k) (0)
  ⟨Nat.zero_le _, fun j h => absurd h (Nat.not_lt_zero _)⟩ oa sr ?_
 rintro k u ⟨hk, hq⟩
 refine gw ?_
 refine j0 rfl rfl (p9 rfl rfl) (fun h11 => gw ?_) (fun h11 => gw ?_)
 ·refine e6 (i5 uT cT rfl rfl ow (c9 hR) (by rw [D5]; omega)) (e6 (a8 rfl (A9 (v := uI ↑(xs.getD (k) 0)) (c9 hR) oT (F6 ow))) (gw ?_))
  refine e6 (r8 uT uT rfl km) (e6 (G5 rfl rfl (by have := lw _ (E6 (k := k) 0 h11); simp only [H1]; omega)) (gw ?_))
  refine j0 rfl rfl (z6 rfl rfl) (fun h22 => gw ?_) (fun h22 => gw ?_)
  ·refine a9 (fR ?_)
   exact ⟨(dT (zgS h11 h22)).symm, rfl⟩
  ·refine ⟨k + 1, ?_, od, oz, sr⟩
   exact ⟨by show _ ≤ _; omega, fun j hj => (Nat.lt_or_ge j k).elim (hq j) (fun h => by (obtain rfl : j = k := by omega); exact h22)⟩
 ·refine i7 (c8 (gw ?_))
  refine a9 (fR ?_)
  exact ⟨(dF (fun h => h (zeP (fun j hj => hq j ow)))).symm, rfl⟩
theorem GH (gh l p : Nat) (hh : gh ≤ 32) (ho : N0 gh (l, p)) (A) (c : Nat) (xs : List Nat) (hn : xs.length ≤ 256) (he : n6 xs l p ≠ []) (w0) (lw : lW xs) (hR : Ro w0 [] (SlA A (w6 xs))) : cR 190 #[sL A xs.length c, iI l, uI p] w0 (.bool true) := by
 have h := GG gh l p hh ho A c xs hn w0 lw hR
 rwa [decide_eq_true he] at h
theorem zie (gh l p : Nat) (hh : gh ≤ 32) (ho : N0 gh (l, p)) (A) (c : Nat) (xs : List Nat) (hn : xs.length ≤ 256) (he : n6 xs l p = []) (w0) (lw : lW xs) (hR : Ro w0 [] (SlA A (w6 xs))) : cR 190 #[sL A xs.length c, iI l, uI p] w0 (.bool false) := by
 have h := GG gh l p hh ho A c xs hn w0 lw hR
 rwa [decide_eq_false (fun h => h he)] at h
theorem xR (gh : Nat) (hh : gh ≤ 32) (A) (c : Nat) (xs : List Nat) (hn : xs.length ≤ 256) (lw : lW xs) (l p : Nat) (w0) (ho : N0 gh (l, p)) (hR : Ro w0 [] (SlA A (w6 xs))) (he : n6 xs l p = []) :
  cP 149 #[sL A xs.length c, iI l, uI p] w0 fun v L => ∃ O d, v = sL O (E0 (l) xs p).length d ∧ L = [OwnA 264 2 O (E0 (l) xs p).length d (iQ (E0 (l) xs p))] := by
 refine co 32 [.tmp 6] func149 ?_
 refine gw ?_
 refine u7 en (fun w hw => zie gh (l) p hh ho A c xs hn he w lw (Rd.ro hR w hw)) (gw ?_)
 refine e6 (n8 (F5 (vs := [iI l, uI p]) (pls := #[(0, 1), (1, 1)]) uT (fun w => by kernel_rfl) ze264 rfl ⟨rfl, rfl, trivial⟩ rfl) (show _ = Value.agg #[iI l, uI p] from rfl)) (z7 (Q2 (vs := [.agg #[iI l, uI p]]) uT elem264 rfl dc rfl (by intro v hv; rw [List.mem_singleton.1 hv]; rfl) (fun g15 => (gw ?_))))
 refine a9 (D7 sr ?_)
 exact ⟨some ⟨g15, 0, none⟩, 1, by rw [xE he]; rfl, by rw [xE he]; rfl⟩
theorem zen (gh : Nat) (hh : gh ≤ 32) (A) (c : Nat) (xs : List Nat) (hn : xs.length ≤ 256) (lw : lW xs) (p : Nat) (w0) (ho : N0 gh (0, p)) (hR : Ro w0 [] (SlA A (w6 xs))) (he : n6 xs 0 p ≠ []) :
  cP 149 #[sL A xs.length c, iI (0 : Nat), uI p] w0 fun v L => ∃ O d, v = sL O (E0 (0) xs p).length d ∧ L = [OwnA 264 2 O (E0 (0) xs p).length d (iQ (E0 (0) xs p))] := by
 refine co 32 [.tmp 6] func149 ?_
 refine m6 264 2 (gw ?_)
 refine u7 en (fun w hw => GH gh (0) p hh ho A c xs hn he w lw (Rd.ro hR w hw)) (gw ?_)
 refine e6 (Qt.dT (z6 (b := 0) rfl rfl) (rfl)) (gw ?_)
 refine a9 (D7 sr ?_)
 exact ⟨none, 0, by rw [tB he]; rfl, by rw [tB he]; rfl⟩
theorem zeo (gh : Nat) (hh : gh ≤ 32) (A) (c : Nat) (xs : List Nat) (hn : xs.length ≤ 256) (lw : lW xs) (l p : Nat) (w0) (ho : N0 gh (l + 1, p)) (hR : Ro w0 [] (SlA A (w6 xs))) (he : n6 xs (l + 1) p ≠ []) (hrec : KG gh A c xs l) :
  cP 149 #[sL A xs.length c, iI ↑(l + 1), uI p] w0 fun v L => ∃ O d, v = sL O (E0 (l + 1) xs p).length d ∧ L = [OwnA 264 2 O (E0 (l + 1) xs p).length d (iQ (E0 (l + 1) xs p))] := by
 refine co 32 [.tmp 6] func149 ?_
 obtain ⟨hl32, hp32⟩ := aX hh ho
 obtain ⟨okl, okr⟩ := bG ho
 have hb : ∀ q, (E0 l xs q).length ≤ 8193 := fun q => by have h1 := jM l xs q; have h2 : xs.length * l ≤ 256 * 32 := Nat.mul_le_mul hn ow; omega
 have hb1 := hb (2 * p)
 have hb2 := hb (2 * p + 1)
 refine gw ?_
 refine u7 en (fun w hw => GH gh (l + 1) p hh ho A c xs hn he w lw (Rd.ro hR w hw)) (gw ?_)
 refine e6 (Qt.dF (z6 (b := 0) rfl rfl) ow) (gw ?_)
 refine e6 (n8 (o7 (a := l + 1) (b := 1) rfl rfl ow km) (by rw [Nat.add_sub_cancel])) (gw ?_)
 refine e6 (F3 (a := 2) rfl rfl km) ?_
 refine z9 en (fun w hw => hrec (2 * p) w okl (Rd.ro hR w hw)) ?_
 rintro v L' ⟨O1, d1, rfl, rfl⟩
 refine gw ?_
 refine e6 (n8 (o7 (a := l + 1) (b := 1) rfl rfl ow km) (by rw [Nat.add_sub_cancel])) (gw ?_)
 refine e6 (F3 (a := 2) rfl rfl km) (gw ?_)
 refine z9 en (fun w hw => hrec (2 * p + 1) w okr (Rd.ro hR w hw)) ?_
 rintro v L' ⟨O2, d2, rfl, rfl⟩
 refine z7 (G1 (news := iQ (E0 l xs (2 * p + 1))) uT elem264 rfl rfl (x8 w5) (W4 _) (uD _) kx ow (fun O3 d3 => ?_))
 refine gw ?_
 refine a9 (D7 (sT (sk (sd I8)) (sT (sk sr) (e5 pm1))) ?_)
 exact ⟨O3, d3, by rw [tA he, List.length_append]; rfl, by rw [tA he, List.length_append, pR]⟩
theorem CH (gh : Nat) (hh : gh ≤ 32) (A) (c : Nat) (xs : List Nat) (hn : xs.length ≤ 256) (lw : lW xs) : ∀ l, KG gh A c xs l
 | 0 => fun p w0 ho hR => by
  by_cases he : n6 xs 0 p = []
  ·exact xR gh hh A c xs hn lw 0 p w0 ho hR he
  ·exact zen gh hh A c xs hn lw p w0 ho hR he
 | l + 1 => fun p w0 ho hR => by
  by_cases he : n6 xs (l + 1) p = []
  ·exact xR gh hh A c xs hn lw (l + 1) p w0 ho hR he
  ·exact zeo gh hh A c xs hn lw l p w0 ho hR he (CH gh hh A c xs hn lw l)
theorem Tryz.keyU : KeyLaw prog 40 Q9 := Go.E.keyU underlying40
end Go.Proofs.YtgdjcmehlhebdaaGreatDoor
