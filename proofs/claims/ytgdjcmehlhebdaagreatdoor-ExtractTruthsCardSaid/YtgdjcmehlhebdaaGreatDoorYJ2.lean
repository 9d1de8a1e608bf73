/- Walks: the sort of a slice of numbers: the partial insertion -/
import Derived.Test.YtgdjcmehlhebdaaGreatDoorYJ1
set_option maxHeartbeats 25600000
set_option linter.all false
namespace Go.Proofs.YtgdjcmehlhebdaaGreatDoor
open _root_.Go.Proofs.Tryz
open Go.E
set_option maxRecDepth 4000
theorem zbs (g n cp : Nat) (d : Array Nat) (r : List Value) (hn : d.size = n) (hm : n < 4294967296) (a b : Nat) (hab : a < b) (hb : b ≤ n) (w0) (hL : Sat w0 [Blk g 40 (w7 (d) r)]) :
  Calls prog 223 #[sL (some ⟨g, 0, none⟩) n cp, iI a, iI b] w0 (D0 w0 (A8 [Blk g 40 (w7 (d) r)]) fun v L => v = .bool (Go.Sort.partialInsertionSort v5 d a b).2 ∧ L = [Blk g 40 (w7 ((Go.Sort.partialInsertionSort v5 d a b).1) r)]) := by
 refine gW (L := [Blk g 40 (w7 (d) r)]) 133 [.tmp 6] func223 hL ?_
 refine gw ?_
 refine l5 (γ := Nat × Nat × Array Nat) (mr 13 120 (mr 6 5 [])) (fun q => [(8, iI q.1), (7, iI q.2.1)]) (fun q => [Blk g 40 (w7 q.2.2 r)]) (fun q => q.1 ≤ 5 ∧ a < q.2.1 ∧ q.2.1 ≤ b ∧ q.2.2.size = n ∧ Go.Sort.partialIns v5 a b (5 - q.1) q.2.1 q.2.2 = (Go.Sort.partialInsertionSort v5 d a b)) (fun q => 5 - q.1) ((0, a + 1, d))
  ⟨by dsimp only; omega, by dsimp only; omega, by dsimp only; omega, hn, rfl⟩ oa sr ?_
 rintro ⟨t, i, e⟩ u ⟨ht, hai, hib, he, hq⟩
 dsimp only at ht hai hib he hq
 show TC _ _ _ (puts [(8, iI t), (7, iI i)] (scr _ u _)) [Blk g 40 (w7 (e) r)]
 refine gw ?_
 refine j0 rfl rfl (p9 (b := 5) rfl rfl) (fun h14 => ?_) (fun h14 => ?_)
 ·refine l3 (Q3 rfl (w8 (c8 (C5 ?_))))
  refine Q8 (γ := Nat) (mr 17 18 [7]) (fun k => [(7, iI k)]) (fun k => [Blk g 40 (w7 e r)]) (fun k => i ≤ k ∧ k ≤ b ∧ Go.Sort.scanSorted v5 e b i = k) ?_ ?_
  ·refine gw ?_
   refine l5 (γ := Nat) (mr 17 18 [7]) (fun k => [(7, iI k)]) (fun _ => _) (fun k => i ≤ k ∧ k ≤ b ∧ Go.Sort.scanSorted v5 e b k = Go.Sort.scanSorted v5 e b i) (fun k => b - k) (i)
    ⟨Nat.le_refl _, hib, rfl⟩ oa sr ?_
   rintro k u ⟨hik, hkb, hks⟩
   refine gw ?_
   refine dw ([], []) (gw ?_)
   refine aY (k := 2) rfl kr kr kr rfl rfl (p9 rfl rfl) (fun h19 => gw ?_) (fun h19 => gw ?_)
   ·refine C2 6 rfl rfl (iB rfl rfl) (C2 7 rfl rfl (lB rfl) (gw ?_))
    refine C2 10 rfl rfl (o7 (b := 1) rfl rfl ow km) (C2 11 rfl rfl (iB rfl rfl) (C2 12 rfl rfl (lB rfl) ?_))
    by_cases h30 : v5 e[k]! e[k - 1]! = true
    ·refine Q7 13 rfl rfl en (fun w hw => aN h30 w) (gw ?_)
     refine p7 (gw ?_)
     refine i7 ?_
     refine ⟨k, ?_, ⟨?_, ag⟩, sr⟩
     ·exact ⟨hik, hkb, by rw [← hks, zhE h30]⟩
     exact K8
    ·refine Q7 13 rfl rfl en (fun w hw => aM h30 w) (gw ?_)
     refine p7 (gw ?_)
     refine ⟨k + 1, ?_, od, oz, sr⟩
     exact ⟨by omega, by omega, (ziW h19 h30).symm.trans hks⟩
   ·refine p7 (gw ?_)
    refine i7 ?_
    refine ⟨k, ?_, ⟨?_, ag⟩, sr⟩
    ·exact ⟨hik, hkb, by rw [← hks, zhD h19]⟩
    exact K8
  ·rintro k u ⟨hik, hkb, hk⟩
   refine gw ?_
   refine j0 rfl rfl (z6 rfl rfl) (fun h37 => gw ?_) (fun h37 => gw ?_)
   ·refine a9 (finQ.ret rv sr ?_)
    rw [← hq, ziG ow hk h37]
    exact rr
   ·refine e6 (o7 rfl rfl ow km) (j0 rfl rfl (p9 (b := 50) rfl rfl) (fun h41 => gw ?_) (fun h41 => gw ?_))
    ·refine a9 (finQ.ret rv sr ?_)
     rw [← hq, zhn ow hk h37 h41]
     exact rr
    ·refine dw ([15, 17], []) (gw ?_)
     refine jU 4 rfl (o7 (b := 1) rfl rfl ow km) (gw ?_)
     refine c6 7 rfl (o7 (b := 1) rfl rfl ow km) (c6 8 rfl (iB rfl rfl) (c6 9 rfl (lB rfl) (gw ?_)))
     refine c6 12 rfl (iB rfl rfl) (c6 13 rfl (lB rfl) ?_)
     refine c6 14 rfl (x1 uT cT rfl rfl ow (j8 w5) bS) (F7 15 rfl (q6 rfl cw cT rfl rfl bS (B9 od) (G0 ?_)))
     refine c6 16 rfl (x1 (i := k - 1) uT cT rfl rfl ow (j8 w5) bS) (F7 17 rfl (q6 rfl cw cT rfl rfl bS (B9 aS) (G0 ?_)))
     refine p7 ?_
     refine Q8 (γ := Array Nat) (mr 58 37 [9]) (fun f2 => []) (fun f2 => [Blk g 40 (w7 f2 r)]) (fun f2 => f2.size = n ∧ f2 = Go.Sort.fixDown v5 a k (Go.Sort.swp e k (k - 1))) ?_ ?_
     ·refine gw ?_
      refine e6 (o7 rfl rfl ow km) (j0 rfl rfl (T0 (b := 2) rfl rfl) (fun h61 => gw ?_) (fun h61 => gw ?_))
      ·refine e6 (o7 (b := 1) rfl rfl ow km) (gw ?_)
       refine l5 (γ := Nat × Array Nat) (mr 64 31 [9]) (fun q => [(9, iI q.1)]) (fun q => [Blk g 40 (w7 q.2 r)]) (fun q => q.1 < n ∧ q.2.size = n ∧ Go.Sort.shiftDown v5 q.1 q.2 = Go.Sort.shiftDown v5 (k - 1) (Go.Sort.swp e k (k - 1))) (fun q => q.1) ((k - 1, Go.Sort.swp e k (k - 1)))
        ⟨by dsimp only; omega, (Go.Sort.swp_size _ _ _).trans he, rfl⟩ oa sr ?_
       rintro ⟨j, f⟩ u ⟨hj, hf, hqf⟩
       dsimp only at hj hf hqf
       show TC _ _ _ (puts [(9, iI j)] (scr _ u _)) [Blk g 40 (w7 (f) r)]
       refine gw ?_
       refine j0 rfl rfl (T0 (b := 1) rfl rfl) (fun h65 => gw ?_) (fun h65 => gw ?_)
       ·refine dw ([], []) (gw ?_)
        refine c6 2 rfl (iB rfl rfl) (c6 3 rfl (lB rfl) (gw ?_))
        refine c6 6 rfl (o7 (b := 1) rfl rfl ow km) (c6 7 rfl (iB rfl rfl) (c6 8 rfl (lB rfl) ?_))
        by_cases h77 : v5 f[j]! f[j - 1]! = true
        ·refine I7 9 rfl en (fun w hw => aN h77 w) (gw ?_)
         refine p7 (gw ?_)
         refine dw ([15, 17], []) (gw ?_)
         refine jU 4 rfl (o7 (b := 1) rfl rfl ow km) (gw ?_)
         refine c6 7 rfl (o7 (b := 1) rfl rfl ow km) (c6 8 rfl (iB rfl rfl) (c6 9 rfl (lB rfl) (gw ?_)))
         refine c6 12 rfl (iB rfl rfl) (c6 13 rfl (lB rfl) ?_)
         refine c6 14 rfl (x1 uT cT rfl rfl ow (j8 w5) bS) (F7 15 rfl (q6 rfl cw cT rfl rfl bS (B9 od) (G0 ?_)))
         refine c6 16 rfl (x1 (i := j - 1) uT cT rfl rfl ow (j8 w5) bS) (F7 17 rfl (q6 rfl cw cT rfl rfl bS (B9 aS) (G0 ?_)))
         refine p7 (gw ?_)
         refine e6 (o7 (b := 1) rfl rfl ow km) (gw ?_)
         refine ⟨(j - 1, Go.Sort.swp f j (j - 1)), ?_, od, oz, sr⟩
         exact ⟨by dsimp only; omega, (Go.Sort.swp_size _ _ _).trans hf, (ziX h65 h77).symm.trans hqf⟩
        ·refine I7 9 rfl en (fun w hw => aM h77 w) (gw ?_)
         refine p7 (gw ?_)
         refine i7 ?_
         refine ⟨f, ?_, ⟨?_, (fun _ h => nomatch h)⟩, sr⟩
         ·exact ⟨hf, by rw [Go.Sort.fixDown, if_pos h61, ← hqf, zhG h77]⟩
         exact K8
       ·refine i7 ?_
        refine ⟨f, ?_, ⟨?_, (fun _ h => nomatch h)⟩, sr⟩
        ·exact ⟨hf, by rw [Go.Sort.fixDown, if_pos h61, ← hqf, zhF h65]⟩
        exact K8
      ·refine ⟨Go.Sort.swp e k (k - 1), ?_, ⟨?_, (fun _ h => nomatch h)⟩, sr⟩
       ·exact ⟨(Go.Sort.swp_size _ _ _).trans he, (if_neg h61).symm⟩
       exact K8
     ·rintro f2 u ⟨hf2, ef2⟩
      refine gw ?_
      refine e6 (o7 rfl rfl ow km) (j0 rfl rfl (T0 (b := 2) rfl rfl) (fun h98 => gw ?_) (fun h98 => gw ?_))
      ·refine l5 (γ := Nat × Array Nat) (mr 101 32 [10]) (fun q => [(10, iI q.1)]) (fun q => [Blk g 40 (w7 q.2 r)]) (fun q => 1 ≤ q.1 ∧ q.1 ≤ b + 1 ∧ q.2.size = n ∧ Go.Sort.shiftUp v5 b q.1 q.2 = Go.Sort.shiftUp v5 b (k + 1) f2) (fun q => b + 1 - q.1) ((k + 1, f2))
        ⟨by dsimp only; omega, by dsimp only; omega, hf2, rfl⟩ oa sr ?_
       rintro ⟨m, y⟩ u ⟨hm1, hmb, hy, hqy⟩
       dsimp only at hm1 hmb hy hqy
       show TC _ _ _ (puts [(10, iI m)] (scr _ u _)) [Blk g 40 (w7 (y) r)]
       refine gw ?_
       refine j0 rfl rfl (p9 rfl rfl) (fun h103 => gw ?_) (fun h103 => gw ?_)
       ·refine dw ([], []) (gw ?_)
        refine c6 2 rfl (iB rfl rfl) (c6 3 rfl (lB rfl) (gw ?_))
        refine c6 6 rfl (o7 (b := 1) rfl rfl ow km) (c6 7 rfl (iB rfl rfl) (c6 8 rfl (lB rfl) ?_))
        by_cases h115 : v5 y[m]! y[m - 1]! = true
        ·refine I7 9 rfl en (fun w hw => aN h115 w) (gw ?_)
         refine p7 (gw ?_)
         refine dw ([15, 17], []) (gw ?_)
         refine jU 4 rfl (o7 (b := 1) rfl rfl ow km) (gw ?_)
         refine c6 7 rfl (o7 (b := 1) rfl rfl ow km) (c6 8 rfl (iB rfl rfl) (c6 9 rfl (lB rfl) (gw ?_)))
         refine c6 12 rfl (iB rfl rfl) (c6 13 rfl (lB rfl) ?_)
         refine c6 14 rfl (x1 uT cT rfl rfl ow (j8 w5) bS) (F7 15 rfl (q6 rfl cw cT rfl rfl bS (B9 od) (G0 ?_)))
         refine c6 16 rfl (x1 (i := m - 1) uT cT rfl rfl ow (j8 w5) bS) (F7 17 rfl (q6 rfl cw cT rfl rfl bS (B9 aS) (G0 ?_)))
         refine p7 (gw ?_)
         refine ⟨(m + 1, Go.Sort.swp y m (m - 1)), ?_, od, oz, sr⟩
         exact ⟨by dsimp only; omega, by dsimp only; omega, (Go.Sort.swp_size _ _ _).trans hy, (zi0 h103 h115).symm.trans hqy⟩
        ·refine I7 9 rfl en (fun w hw => aM h115 w) (gw ?_)
         refine p7 (gw ?_)
         refine i7 (c7 (gw ?_))
         refine ⟨(t + 1, k, y), ?_, od, oz, sr⟩
         exact ⟨by dsimp only; omega, by dsimp only; omega, by dsimp only; omega, hy, (by dsimp only; rw [← hq, BV ow hk h37 h41 ef2 (by rw [Go.Sort.fixUp, if_pos h98, ← hqy, zhP h103 h115]), show 5 - (t + 1) = 5 - t - 1 by omega])⟩
       ·refine i7 (c7 (gw ?_))
        refine ⟨(t + 1, k, y), ?_, od, oz, sr⟩
        exact ⟨by dsimp only; omega, by dsimp only; omega, by dsimp only; omega, hy, (by dsimp only; rw [← hq, BV ow hk h37 h41 ef2 (by rw [Go.Sort.fixUp, if_pos h98, ← hqy, zhO h103]), show 5 - (t + 1) = 5 - t - 1 by omega])⟩
      ·refine ⟨(t + 1, k, f2), ?_, od, oz, sr⟩
       exact ⟨by dsimp only; omega, by dsimp only; omega, by dsimp only; omega, hf2, (by dsimp only; rw [← hq, BV ow hk h37 h41 ef2 (if_neg h98).symm, show 5 - (t + 1) = 5 - t - 1 by omega])⟩
 ·refine gw ?_
  refine i7 (c8 (gw ?_))
  refine a9 (finQ.ret rv sr ?_)
  rw [← hq, show 5 - t = 0 by omega]
  exact rr
theorem FR (x : Nat) (hx : x < 4294967296) (w0) : cR 217 #[uI x] w0 (iI ↑(K7 x)) := by
 refine cQ (co 8 [.tmp 2] func217 ?_)
 refine gw ?_
 refine u7 en (fun w hw => GS x hx w) (gw ?_)
 exact tR
theorem zjv (x : Nat) (hx : x < 4294967296) (w0) : cR 229 #[iI x] w0 (uI ↑(1 <<< Go.Sort.bitsLen x)) := by
 refine cQ (co 7 [.tmp 2] func229 ?_)
 have hb := KY hx
 have hp : 2 ^ K7 x ≤ 2 ^ 32 := Nat.pow_le_pow_right dc hb
 refine gw ?_
 refine e6 (r8 uT uT rfl km) (u7 en (fun w hw => FR x hx w) (e6 (GD (a := 1) rfl rfl km) (gw ?_)))
 refine a9 (fR ?_)
 exact ⟨FY (by rw [Nat.shiftLeft_eq]; rfl), rfl⟩
theorem zfn (x : Nat) (r : UInt64) (w0) (hL : Sat w0 [Blk x 353 [uI ↑((r : UInt64).toNat)]]) :
  Calls prog 230 #[pZ x] w0 (D0 w0 (A8 [Blk x 353 [uI ↑((r : UInt64).toNat)]]) fun v L => v = uI ↑((Go.Sort.xorNext r).toNat) ∧ L = [Blk x 353 [uI ↑((Go.Sort.xorNext r : UInt64).toNat)]]) := by
 refine gW (L := [Blk x 353 [uI ↑((r : UInt64).toNat)]]) 33 [.tmp 2] func230 hL ?_
 refine gw ?_
 refine dw ([9], []) (gw ?_)
 refine c6 6 rfl (n8 (BC (s := 13) rfl rfl rfl dc) (FY (x13 r))) (c6 7 rfl (n8 (nW rfl rfl (kY _) (kY _)) (FY (UInt64.toNat_xor _ _).symm)) (gw ?_))
 refine F7 9 rfl (j5 rfl cw (by exact ce353) (by rfl) (by rfl) (G0 ?_))
 refine p7 (gw ?_)
 refine dw ([9], []) (gw ?_)
 refine c6 6 rfl (n8 (G5 (s := 7) rfl rfl (kY _)) (FY (x7 (r ^^^ r <<< 13)))) (c6 7 rfl (n8 (nW rfl rfl (kY _) (kY _)) (FY (UInt64.toNat_xor _ _).symm)) (gw ?_))
 refine F7 9 rfl (j5 rfl cw (by exact ce353) (by rfl) (by rfl) (G0 ?_))
 refine p7 (gw ?_)
 refine dw ([9], []) (gw ?_)
 refine c6 6 rfl (n8 (BC (s := 17) rfl rfl rfl dc) (FY (x17 ((r ^^^ r <<< 13) ^^^ (r ^^^ r <<< 13) >>> 7)))) (c6 7 rfl (n8 (nW rfl rfl (kY _) (kY _)) (FY (UInt64.toNat_xor _ _).symm)) (gw ?_))
 refine F7 9 rfl (j5 rfl cw (by exact ce353) (by rfl) (by rfl) (G0 ?_))
 refine p7 (gw ?_)
 refine a9 (finQ.ret rv sr ?_)
 exact rr
theorem zdn (g n cp : Nat) (d : Array Nat) (r : List Value) (hn : d.size = n) (hm : n < 4294967296) (a b : Nat) (hb : b ≤ n) (hab : a ≤ b) (w0 : World) (hL : Sat w0 [Blk g 40 (w7 (d) r)]) :
    Calls prog 220 #[.slice (some ⟨g, 0, none⟩) n cp, .int .i64 ((a : Nat) : Int), .int .i64 ((b : Nat) : Int)] w0 (D0 w0 (A8 [Blk g 40 (w7 (d) r)]) fun v L => v = .tuple #[] ∧ L = [Blk g 40 (w7 (Go.Sort.breakPatterns d a b) r)]) := by
  refine N4 (L := [Blk g 40 (w7 (d) r)]) (n := 65) (rs := []) func220 rfl rfl rfl (Nat.le_of_ble_eq_true rfl) (hL) ?_
  refine c8 ?_
  refine c7 ?_
  refine o8 ?_
  refine o8 ?_
  refine e6 (o7 rfl rfl ow km) ?_
  refine C3 ?_
  refine l3 ?_
  refine c8 ?_
  refine c7 ?_
  refine o8 ?_
  refine j0 rfl rfl (T0 (b := 8) rfl rfl) (fun h15 => ?_) (fun h15 => ?_)
  · refine l3 ?_
    refine Q3 rfl ?_
    refine c8 ?_
    refine c7 ?_
    refine o8 ?_
    refine e6 (r8 uT uT rfl km) ?_
    refine z7 (z4 zT (fun b7 => ?_))
    refine j9 rfl (j5 rfl cw (by exact ce353) (by rfl) (by rfl) ?_)
    refine l3 ?_
    refine c8 ?_
    refine c7 ?_
    refine o8 ?_
    refine z7 (R1 J229 rfl (fun w hw => zjv (b - a) ow w) ?_)
    refine C3 ?_
    refine l3 ?_
    refine c8 ?_
    refine c7 ?_
    refine o8 ?_
    refine o8 ?_
    refine e6 (I2 (b := 4) rfl rfl ow km) ?_
    refine e6 (F3 (b := 2) rfl rfl km) ?_
    refine e6 (v4 rfl rfl km) ?_
    refine e6 (o7 (b := 1) rfl rfl ow km) ?_
    refine C3 ?_
    refine l3 ?_
    refine C5 ?_
    refine l5 (γ := Nat × UInt64 × Array Nat) [26, 27, 28, 29, 30, 31, 32, 33, 36, 37, 38, 39, 40, 10, 41, 42, 43, 44, 45, 46, 47, 48, 49, 50, 51, 52, 53, 54, 55, 56, 57, 58, 59, 60, 61, 62, 63, 64, 34, 35, 9] (fun q => [(9, .int .i64 (((a + (b - a) / 4 * 2 - 1) + q.1 : Nat) : Int))]) (fun q => [Blk b7 353 [.int .u64 ((q.2.1.toNat : Nat) : Int)], Blk g 40 (w7 q.2.2 r)]) (fun q => q.1 ≤ 3 ∧ q.2.2.size = n ∧ (q.2.1, q.2.2) = KZ a (b - a) (1 <<< Go.Sort.bitsLen (b - a)) d (a + (b - a) / 4 * 2 - 1) q.1) (fun q => 3 - q.1) ((0, UInt64.ofNat (b - a), d))
      ⟨by dsimp only; omega, hn, rfl⟩ ⟨Out.refl _ _, (List.forall_mem_cons.2 ⟨rfl, (fun _ h => nomatch h)⟩)⟩ ((by dsimp only; rw [ziA ow]; exact sr)) ?_
    rintro ⟨c, s, e⟩ u ⟨hc, he, hq⟩
    dsimp only at hc he hq
    show TC _ _ _ (puts [(9, .int .i64 (((a + (b - a) / 4 * 2 - 1) + c : Nat) : Int))] (scr _ u _)) [Blk b7 353 [.int .u64 ((s.toNat : Nat) : Int)], Blk g 40 (w7 (e) r)]
    refine c8 ?_
    refine c8 ?_
    refine c7 ?_
    have hmd := zfm (x := b - a) ow
    refine o8 ?_
    refine o8 ?_
    refine o8 ?_
    refine e6 (I2 (b := 4) rfl rfl ow km) ?_
    refine e6 (F3 (b := 2) rfl rfl km) ?_
    refine e6 (v4 rfl rfl km) ?_
    refine e6 (v4 (b := 1) rfl rfl km) ?_
    refine j0 rfl rfl (bM rfl rfl) (fun h33 => ?_) (fun h33 => ?_)
    · refine l3 ?_
      refine Q3 rfl ?_
      refine w8 ?_
      refine c8 ?_
      refine C5 ?_
      refine c8 ?_
      refine c7 ?_
      refine z7 (l8 (Pre := [Blk b7 353 [.int .u64 ((s.toNat : Nat) : Int)]]) (R := _) J230 rfl pr (fun w hw => zfn b7 s w hw.sat.left) ?_)
      rintro v L' ⟨rfl, rfl⟩
      refine o8 ?_
      refine e6 (o7 (b := 1) rfl rfl ow km) ?_
      refine e6 (fN rfl rfl (kY _) km) ?_
      have hand : (Go.Sort.xorNext s).toNat &&& ((1 <<< Go.Sort.bitsLen (b - a)) - 1) ≤ (1 <<< Go.Sort.bitsLen (b - a)) - 1 := Nat.and_le_right
      refine e6 (r8 uT uT rfl km) ?_
      refine C3 ?_
      refine l3 ?_
      refine c8 ?_
      refine c8 ?_
      refine c7 ?_
      refine o8 ?_
      refine o8 ?_
      refine j0 rfl rfl (T0 rfl rfl) (fun h43 => ?_) (fun h43 => ?_)
      · refine l3 ?_
        refine Q3 rfl ?_
        refine c7 ?_
        refine o8 ?_
        refine o8 ?_
        refine e6 (o7 rfl rfl ow km) ?_
        refine C3 ?_
        refine l3 ?_
        refine D1 ([17, 19], []) mixed (sk (sd I8)) ?_
        refine c6 0 rfl (m8 cw) ?_
        refine c6 1 rfl (m8 cw) ?_
        refine jU 2 rfl (m8 cw) ?_
        refine jU 3 rfl (m8 cw) ?_
        refine jU 4 rfl (m8 cw) ?_
        refine jU 5 rfl (v4 rfl rfl km) ?_
        refine c6 6 rfl (m8 cw) ?_
        refine c6 7 rfl (m8 cw) ?_
        refine c6 8 rfl (m8 cw) ?_
        refine c6 9 rfl (v4 rfl rfl km) ?_
        refine c6 10 rfl (i5 uT cT rfl rfl ow (j8 N3) (by simp only [K6]; omega)) ?_
        refine c6 11 rfl (a8 rfl (A9 (j8 N3) oT (eM (by (try dsimp only); omega)))) ?_
        refine c6 12 rfl (m8 cw) ?_
        refine c6 13 rfl (m8 cw) ?_
        refine c6 14 rfl (i5 uT cT rfl rfl ow (j8 N3) (by simp only [K6]; omega)) ?_
        refine c6 15 rfl (a8 rfl (A9 (j8 N3) oT (eM (by (try dsimp only); omega)))) ?_
        refine c6 16 rfl (x1 uT cT rfl rfl ow (j8 N3) (by simp only [K6]; omega)) ?_
        refine fH (k := 17) (sk (sd I8)) rfl (by kernel_rfl) (by kernel_rfl) rfl (fJ rfl cw cT rfl rfl (by simp only [K6, Array.size_setIfInBounds]; omega) (B9 (by (try dsimp only); omega)) ⟨sk (sd I8), ?_⟩)
        refine c6 18 rfl (x1 (i := a + (((Go.Sort.xorNext s).toNat &&& ((1 <<< Go.Sort.bitsLen (b - a)) - 1)) - (b - a))) uT cT rfl rfl ow (j8 N3) (by simp only [K6, Array.size_setIfInBounds]; omega)) ?_
        refine fH (k := 19) (sk (sd I8)) rfl (by kernel_rfl) (by kernel_rfl) rfl (fJ rfl cw cT rfl rfl (by simp only [K6, Array.size_setIfInBounds]; omega) (B9 (by (try simp only [Array.size_setIfInBounds]); omega)) ⟨sk (sd I8), ?_⟩)
        refine R2 (sk (sd I8)) (by kernel_rfl) ?_
        refine c7 ?_
        refine o8 ?_
        refine e6 (v4 (b := 1) rfl rfl km) ?_
        refine C3 ?_
        refine l3 ?_
        refine ⟨(c + 1, Go.Sort.xorNext s, Go.Sort.swp e ((a + (b - a) / 4 * 2 - 1) + c) (a + (((Go.Sort.xorNext s).toNat &&& ((1 <<< Go.Sort.bitsLen (b - a)) - 1)) - (b - a)))), ?_, ?_, ⟨?_, (List.forall_mem_cons.2 ⟨rfl, (fun _ h => nomatch h)⟩)⟩, sr⟩
        · exact ⟨by dsimp only; omega, (Go.Sort.swp_size _ _ _).trans he, (by dsimp only; rw [KZ, ← hq, zjT h43])⟩
        · show _ < _; dsimp only; omega
        repeat (first | exact Out.refl _ _ | refine Out.put rfl ?_ | refine U3 rfl ?_ | refine Out.scr ?_ | refine X4 rfl ?_)
      · refine l3 ?_
        refine C4 rfl ?_
        refine w8 ?_
        refine D1 ([17, 19], []) mixed (sk (sd I8)) ?_
        refine c6 0 rfl (m8 cw) ?_
        refine c6 1 rfl (m8 cw) ?_
        refine jU 2 rfl (m8 cw) ?_
        refine jU 3 rfl (m8 cw) ?_
        refine jU 4 rfl (m8 cw) ?_
        refine jU 5 rfl (v4 rfl rfl km) ?_
        refine c6 6 rfl (m8 cw) ?_
        refine c6 7 rfl (m8 cw) ?_
        refine c6 8 rfl (m8 cw) ?_
        refine c6 9 rfl (v4 rfl rfl km) ?_
        refine c6 10 rfl (i5 uT cT rfl rfl ow (j8 N3) (by simp only [K6]; omega)) ?_
        refine c6 11 rfl (a8 rfl (A9 (j8 N3) oT (eM (by (try dsimp only); omega)))) ?_
        refine c6 12 rfl (m8 cw) ?_
        refine c6 13 rfl (m8 cw) ?_
        refine c6 14 rfl (i5 uT cT rfl rfl ow (j8 N3) (by simp only [K6]; omega)) ?_
        refine c6 15 rfl (a8 rfl (A9 (j8 N3) oT (eM (by (try dsimp only); omega)))) ?_
        refine c6 16 rfl (x1 uT cT rfl rfl ow (j8 N3) (by simp only [K6]; omega)) ?_
        refine fH (k := 17) (sk (sd I8)) rfl (by kernel_rfl) (by kernel_rfl) rfl (fJ rfl cw cT rfl rfl (by simp only [K6, Array.size_setIfInBounds]; omega) (B9 (by (try dsimp only); omega)) ⟨sk (sd I8), ?_⟩)
        refine c6 18 rfl (x1 (i := a + ((Go.Sort.xorNext s).toNat &&& ((1 <<< Go.Sort.bitsLen (b - a)) - 1))) uT cT rfl rfl ow (j8 N3) (by simp only [K6, Array.size_setIfInBounds]; omega)) ?_
        refine fH (k := 19) (sk (sd I8)) rfl (by kernel_rfl) (by kernel_rfl) rfl (fJ rfl cw cT rfl rfl (by simp only [K6, Array.size_setIfInBounds]; omega) (B9 (by (try simp only [Array.size_setIfInBounds]); omega)) ⟨sk (sd I8), ?_⟩)
        refine R2 (sk (sd I8)) (by kernel_rfl) ?_
        refine c7 ?_
        refine o8 ?_
        refine e6 (v4 (b := 1) rfl rfl km) ?_
        refine C3 ?_
        refine l3 ?_
        refine ⟨(c + 1, Go.Sort.xorNext s, Go.Sort.swp e ((a + (b - a) / 4 * 2 - 1) + c) (a + ((Go.Sort.xorNext s).toNat &&& ((1 <<< Go.Sort.bitsLen (b - a)) - 1)))), ?_, ?_, ⟨?_, (List.forall_mem_cons.2 ⟨rfl, (fun _ h => nomatch h)⟩)⟩, sr⟩
        · exact ⟨by dsimp only; omega, (Go.Sort.swp_size _ _ _).trans he, (by dsimp only; rw [KZ, ← hq, zjS h43])⟩
        · show _ < _; dsimp only; omega
        repeat (first | exact Out.refl _ _ | refine Out.put rfl ?_ | refine U3 rfl ?_ | refine Out.scr ?_ | refine X4 rfl ?_)
    · refine l3 ?_
      refine C4 rfl ?_
      refine i7 ?_
      refine finQ.normal n9 (Sub.trans (sk (sd I8)) (Sub.trans (sk sr) (e5 pm1))) ?_
      obtain rfl : c = 3 := by omega
      rw [zjR h15, ← hq]
      exact ⟨rfl, rfl⟩
  · refine l3 ?_
    refine C4 rfl ?_
    refine w8 ?_
    refine finQ.normal n9 sr ?_
    rw [zjQ h15]
    exact ⟨rfl, rfl⟩
theorem zho (g n cp : Nat) (e : Array Nat) (r : List Value) (x y l : Nat) (wb wp : Bool) (hn : (Go.Sort.rd v5 e x y l wb wp).d1.size = n) (hm : n < 4294967296) (hab : x < y) (hb : y ≤ n) (w0) (hL : Sat w0 [Blk g 40 (w7 ((Go.Sort.rd v5 e x y l wb wp).d1) r)]) :
  Calls prog 221 #[sL (some ⟨g, 0, none⟩) n cp, iI x, iI y] w0 (D0 w0 (A8 [Blk g 40 (w7 ((Go.Sort.rd v5 e x y l wb wp).d1) r)]) fun v L => v = .tuple #[iI ↑((Go.Sort.rd v5 e x y l wb wp).c.1), iI (Go.Sort.hintCode (Go.Sort.rd v5 e x y l wb wp).c.2)] ∧ L = [Blk g 40 (w7 ((Go.Sort.rd v5 e x y l wb wp).d1) r)]) := zd2 g n cp (Go.Sort.rd v5 e x y l wb wp).d1 r hn hm x y hab hb w0 hL
theorem zhm (g n cp : Nat) (r : List Value) (hm : n < 4294967296) (N : Nat) (ih : ∀ (a b lim : Nat) (d : Array Nat) (hn : d.size = n) (hab : a ≤ b) (hb : b ≤ n) (hl : lim ≤ 64) (hB : Go.Sort.Below v5 a b d) (w0 : World) (hL : Sat w0 [Blk g 40 (w7 (d) r)]), b - a < N → Calls prog 216 #[sL (some ⟨g, 0, none⟩) n cp, iI a, iI b, iI lim] w0 (D0 w0 (A8 [Blk g 40 (w7 (d) r)]) fun v L => v = .tuple #[] ∧ L = [Blk g 40 (w7 (Go.Sort.pdq v5 d a b lim true true) r)])) (a b lim : Nat) (d : Array Nat) (hn : d.size = n) (hab : a ≤ b) (hb : b ≤ n) (hl0 : lim ≤ 64) (hB0 : Go.Sort.Below v5 a b d) (hN : b - a ≤ N) (w0) (hL : Sat w0 [Blk g 40 (w7 (d) r)]) :
  Calls prog 216 #[sL (some ⟨g, 0, none⟩) n cp, iI a, iI b, iI lim] w0 (D0 w0 (A8 [Blk g 40 (w7 (d) r)]) fun v L => v = .tuple #[] ∧ L = [Blk g 40 (w7 (Go.Sort.pdq v5 d a b lim true true) r)]) := by
 refine gW (L := [Blk g 40 (w7 (d) r)]) 134 [] func216 hL ?_
 refine gw ?_
 refine l5 (γ := Nat × Nat × Nat × Bool × Bool × Array Nat) (mr 8 126 [1, 2, 3]) (fun q => [(1, iI q.1), (2, iI q.2.1), (3, iI q.2.2.1), (8, .bool q.2.2.2.1), (9, .bool q.2.2.2.2.1)]) (fun q => [Blk g 40 (w7 q.2.2.2.2.2 r)]) (fun q => q.1 ≤ q.2.1 ∧ q.2.1 ≤ n ∧ q.2.1 - q.1 ≤ N ∧ q.2.2.1 ≤ 64 ∧ q.2.2.2.2.2.size = n ∧ Go.Sort.Below v5 q.1 q.2.1 q.2.2.2.2.2 ∧ Go.Sort.pdq v5 q.2.2.2.2.2 q.1 q.2.1 q.2.2.1 q.2.2.2.1 q.2.2.2.2.1 = Go.Sort.pdq v5 d a b lim true true) (fun q => q.2.1 - q.1) ((a, b, lim, true, true, d))
  ⟨hab, hb, hN, hl0, hn, hB0, rfl⟩ oa sr ?_
 rintro ⟨x, y, l, wb, wp, e⟩ u ⟨hxy, hyn, hxN, hl, he, hB, hq⟩
 dsimp only at hxy hyn hxN hl he hB hq
 show TC _ _ _ (puts [(1, iI x), (2, iI y), (3, iI l), (8, .bool wb), (9, .bool wp)] (scr _ u _)) [Blk g 40 (w7 (e) r)]
 refine gw ?_
 refine e6 (o7 rfl rfl ow km) (gw ?_)
 refine j0 rfl rfl (bM (b := 12) rfl rfl) (fun h23 => gw ?_) (fun h23 => ?_)
 ·refine z7 (l8 (Pre := [Blk g 40 (w7 (e) r)]) (R := _) en rfl pr (fun w hw => zaL g n cp e r he hm x y hxy hyn w hw.sat.left) ?_)
  rintro v L' ⟨rfl, rfl⟩
  refine gw ?_
  refine a9 (finQ.ret n9 sr ?_)
  rw [← hq, Go.Sort.pdq_small h23]
  exact rr
 ·refine l3 (C4 rfl (w8 (c8 (c8 (c7 ?_)))))
  obtain ⟨s1, B1, hc1, s2, B2, hpv, s3, B3⟩ := Go.Sort.rd_facts (limit := l) (wb := wb) (wp := wp) gF Go.Sort.partialInsertionSort_holds Go.Sort.reverseRange_holds (show x < y by omega) (show y ≤ e.size by omega) hB
  refine gw ?_
  refine j0 rfl rfl (z6 (b := 0) rfl rfl) (fun h29 => gw ?_) (fun h29 => ?_)
  ·refine z7 (l8 (Pre := [Blk g 40 (w7 (e) r)]) (R := _) en rfl pr (fun w hw => ze5 g n cp e r he hm x y ow hyn w hw.sat.left) ?_)
   rintro v L' ⟨rfl, rfl⟩
   refine gw ?_
   refine a9 (finQ.ret n9 sr ?_)
   rw [← hq, Go.Sort.pdq_heap h23 h29]
   exact rr
  ·refine l3 (C4 rfl (w8 ?_))
   refine Q8 (γ := Unit) (mr 34 8 [3]) (fun _q => [(3, iI ↑((Go.Sort.rd v5 e x y l wb wp).lim))]) (fun _q => [Blk g 40 (w7 ((Go.Sort.rd v5 e x y l wb wp).d1) r)]) (fun _q => True) ?_ ?_
   ·refine gw ?_
    refine e6 (pV rfl) (gw ?_)
    refine eK rfl (fun b35 => ?_) (fun b35 => ?_)
    ·refine c8 (c7 ?_)
     obtain rfl : wb = false := by simpa using b35
     refine gw ?_
     refine z7 (l8 (Pre := [Blk g 40 (w7 (e) r)]) (R := _) en rfl pr (fun w hw => zdn g n cp e r he hm x y hyn hxy w hw.sat.left) ?_)
     rintro v L' ⟨rfl, rfl⟩
     refine gw ?_
     refine e6 (o7 (b := 1) rfl rfl ow km) (gw ?_)
     refine ⟨(), ?_, ⟨?_, ag⟩, sr⟩
     ·trivial
     exact K8
    ·refine w8 ?_
     obtain rfl : wb = true := by simpa using b35
     refine ⟨(), ?_, ⟨?_, ag⟩, sr⟩
     ·trivial
     exact K8
   ·rintro _ u _
    refine gw ?_
    refine z7 (l8 (Pre := [Blk g 40 (w7 ((Go.Sort.rd v5 e x y l wb wp).d1) r)]) (R := _) en rfl pr (fun w hw => zho g n cp e r x y l wb wp (s1.trans he) hm ow hyn w hw.sat.left) ?_)
    rintro v L' ⟨rfl, rfl⟩
    refine o8 ?_
    refine e6 (s8 rfl rfl) (e6 (s8 rfl rfl) (C3 (C3 (l3 ?_))))
    refine Q8 (γ := Unit) (mr 49 12 [11, 12]) (fun _q => [(11, iI ↑((Go.Sort.rd v5 e x y l wb wp).pivot)), (12, iI (Go.Sort.hintCode (Go.Sort.rd v5 e x y l wb wp).hint))]) (fun _q => [Blk g 40 (w7 ((Go.Sort.rd v5 e x y l wb wp).d2) r)]) (fun _q => True) ?_ ?_
    ·refine gw ?_
     refine j0 rfl rfl (I5 rfl rfl) (fun h50 => ?_) (fun h50 => ?_)
     ·have hdec := zg2 h50
      refine gw ?_
      refine z7 (l8 (Pre := [Blk g 40 (w7 ((Go.Sort.rd v5 e x y l wb wp).d1) r)]) (R := _) en rfl pr (fun w hw => zhw g n cp (Go.Sort.rd v5 e x y l wb wp).d1 r (s1.trans he) hm x y ow hyn w hw.sat.left) ?_)
      rintro v L' ⟨rfl, rfl⟩
      refine gw ?_
      refine e6 (o7 (b := 1) rfl rfl ow km) (gw ?_)
      refine e6 (o7 rfl rfl ow km) (e6 (o7 rfl rfl ow km) (gw ?_))
      refine ⟨(), ?_, ⟨?_, (fm (by show iI _ = iI _; rw [(Go.Sort.rd_dec hdec).2.1]) (fm (by show iI _ = iI _; rw [(Go.Sort.rd_dec hdec).2.2]; rfl) nb))⟩, (by dsimp only; rw [(Go.Sort.rd_dec hdec).1]; exact sr)⟩
      ·trivial
      exact K8
     ·have hnd := zg0 h50
      refine gw ?_
      refine ⟨(), ?_, ⟨?_, (fm (by show iI _ = iI _; rw [(Go.Sort.rd_not hnd).2.1]) (fm (by show iI _ = iI _; rw [(Go.Sort.rd_not hnd).2.2]) nb))⟩, (by dsimp only; rw [(Go.Sort.rd_not hnd).1]; exact sr)⟩
      ·trivial
      exact K8
    ·rintro _ u _
     refine Q8 (γ := Unit) (mr 61 12 []) (fun _q => []) (fun _q => [Blk g 40 (w7 ((Go.Sort.rd v5 e x y l wb wp).pi.1) r)]) (fun _q => (Go.Sort.rd v5 e x y l wb wp).pi.2 = false) ?_ ?_
     ·refine c8 (c7 ?_)
      cases wb
      ·have hno : (false && wp && decide ((Go.Sort.rd v5 e x y l false wp).hint = .increasing)) = false := rfl
       refine gw ?_
       refine ⟨(), ?_, ⟨?_, (fun _ h => nomatch h)⟩, (by dsimp only; rw [Go.Sort.rd_pi_no hno]; exact sr)⟩
       ·rw [Go.Sort.rd_pi_no hno]
       exact K8
      ·refine o8 (o8 ?_)
       cases wp
       ·have hno : (true && false && decide ((Go.Sort.rd v5 e x y l true false).hint = .increasing)) = false := rfl
        refine gw ?_
        refine ⟨(), ?_, ⟨?_, (fun _ h => nomatch h)⟩, (by dsimp only; rw [Go.Sort.rd_pi_no hno]; exact sr)⟩
        ·rw [Go.Sort.rd_pi_no hno]
        exact K8
       ·refine gw ?_
        refine D9 rfl rfl rfl (I5 rfl rfl) (fun h67 => ?_) (fun h67 => ?_)
        ·have hyes : (true && true && decide ((Go.Sort.rd v5 e x y l true true).hint = .increasing)) = true := decide_eq_true (zg1 h67)
         refine gw ?_
         refine z7 (l8 (Pre := [Blk g 40 (w7 ((Go.Sort.rd v5 e x y l true true).d2) r)]) (R := _) en rfl pr (fun w hw => zbs g n cp (Go.Sort.rd v5 e x y l true true).d2 r (s2.trans he) hm x y ow hyn w hw.sat.left) ?_)
         rintro v L' ⟨rfl, rfl⟩
         refine gw ?_
         refine eK rfl (fun b72 => ?_) (fun b72 => ?_)
         ·refine a9 (finQ.ret n9 sr ?_)
          rw [← hq, Go.Sort.pdq_done h23 h29 (by rw [Go.Sort.rd_pi_yes hyes]; exact b72), Go.Sort.rd_pi_yes hyes]
          exact rr
         ·refine gw ?_
          refine ⟨(), ?_, ⟨?_, (fun _ h => nomatch h)⟩, (by dsimp only; rw [Go.Sort.rd_pi_yes hyes]; exact sr)⟩
          ·rw [Go.Sort.rd_pi_yes hyes]
           exact b72
          exact K8
        ·have hno : (true && true && decide ((Go.Sort.rd v5 e x y l true true).hint = .increasing)) = false := decide_eq_false (fun h => h67 (by rw [h]; rfl))
         refine gw ?_
         refine ⟨(), ?_, ⟨?_, (fun _ h => nomatch h)⟩, (by dsimp only; rw [Go.Sort.rd_pi_no hno]; exact sr)⟩
         ·rw [Go.Sort.rd_pi_no hno]
         exact K8
     ·rintro _ u hp2
      refine c8 ?_
      refine Q8 (γ := Unit) (mr 73 15 []) (fun _q => [(87, .bool (decide (x > 0) && !v5 (Go.Sort.rd v5 e x y l wb wp).pi.1[x - 1]! (Go.Sort.rd v5 e x y l wb wp).pi.1[(Go.Sort.rd v5 e x y l wb wp).pivot]!))]) (fun _q => [Blk g 40 (w7 ((Go.Sort.rd v5 e x y l wb wp).pi.1) r)]) (fun _q => True) ?_ ?_
      ·refine dw ([], []) (gw ?_)
       refine aY (k := 1) rfl kr kr kr rfl rfl (M0 (b := 0) rfl rfl) (fun h74 => gw ?_) (fun h74 => gw ?_)
       ·refine C2 5 rfl rfl (o7 (b := 1) rfl rfl ow km) (C2 6 rfl rfl (iB rfl rfl) (C2 7 rfl rfl (lB rfl) (gw ?_)))
        refine C2 10 rfl rfl (iB rfl rfl) (C2 11 rfl rfl (lB rfl) ?_)
        by_cases h85 : v5 (Go.Sort.rd v5 e x y l wb wp).pi.1[x - 1]! (Go.Sort.rd v5 e x y l wb wp).pi.1[(Go.Sort.rd v5 e x y l wb wp).pivot]! = true
        ·refine Q7 12 rfl rfl en (fun w hw => aN h85 w) (gw ?_)
         refine p7 ?_
         refine ⟨(), ?_, ⟨?_, (fm (by show Value.bool _ = Value.bool _; simp [h74, h85]) nb)⟩, sr⟩
         ·trivial
         exact K8
        ·refine Q7 12 rfl rfl en (fun w hw => aM h85 w) (gw ?_)
         refine p7 ?_
         refine ⟨(), ?_, ⟨?_, (fm (by show Value.bool _ = Value.bool _; simp [h74, h85]) nb)⟩, sr⟩
         ·trivial
         exact K8
       ·refine p7 ?_
        refine ⟨(), ?_, ⟨?_, (fm (by show Value.bool _ = Value.bool _; simp [h74]) nb)⟩, sr⟩
        ·trivial
        exact K8
      ·rintro _ u _
       refine eK rfl (fun b87 => ?_) (fun b87 => ?_)
       ·refine c8 (c7 ?_)
        have h87 := b87
        simp only [Bool.and_eq_true, decide_eq_true_eq, Bool.not_eq_true'] at h87
        obtain ⟨mid, d4, hx⟩ : ∃ mid d4, Go.Sort.partitionEqual v5 (Go.Sort.rd v5 e x y l wb wp).pi.1 x y (Go.Sort.rd v5 e x y l wb wp).pivot = (mid, d4) := ⟨_, _, rfl⟩
        obtain ⟨r1, r2, r3, r4, _⟩ := Go.Sort.round_eq gF (Go.Sort.partitionEqual_holds v5) h87.1 hpv.1 hpv.2 (show y ≤ (Go.Sort.rd v5 e x y l wb wp).pi.1.size by omega) B3 h87.2 hx
        refine gw ?_
        refine z7 (l8 (Pre := [Blk g 40 (w7 ((Go.Sort.rd v5 e x y l wb wp).pi.1) r)]) (R := _) en rfl pr (fun w hw => (by have h := zcJ g n cp (Go.Sort.rd v5 e x y l wb wp).pi.1 r (s3.trans he) hm x y (Go.Sort.rd v5 e x y l wb wp).pivot hpv.1 hpv.2 hyn w hw.sat.left; rw [hx] at h; exact h)) ?_)
        rintro v L' ⟨rfl, rfl⟩
        refine gw ?_
        refine i7 ?_
        refine ⟨(mid, y, (Go.Sort.rd v5 e x y l wb wp).lim, wb, wp, d4), ?_, od, oz, sr⟩
        exact ⟨r2, hyn, by dsimp only; omega, Nat.le_trans (Go.Sort.rd_lim_le (lt := v5) (d := e) (a := x) (b := y) (limit := l) (wb := wb) (wp := wp)) hl, r3.trans (s3.trans he), r4, (by dsimp only; rw [← hq, Go.Sort.pdq_eq h23 h29 hp2 b87 (by rw [hx]; exact ⟨r1, r2⟩), hx])⟩
       ·refine w8 (c8 (c7 ?_))
        obtain ⟨mid, ap, d4, hx⟩ : ∃ mid ap d4, Go.Sort.partition v5 (Go.Sort.rd v5 e x y l wb wp).pi.1 x y (Go.Sort.rd v5 e x y l wb wp).pivot = (mid, ap, d4) := ⟨_, _, _, rfl⟩
        obtain ⟨r1, r2, r3, r4, r5, r6, r7⟩ := Go.Sort.round_part gF (Go.Sort.partition_holds v5) hpv.1 hpv.2 (show y ≤ (Go.Sort.rd v5 e x y l wb wp).pi.1.size by omega) B3 hx
        refine gw ?_
        refine z7 (l8 (Pre := [Blk g 40 (w7 ((Go.Sort.rd v5 e x y l wb wp).pi.1) r)]) (R := _) en rfl pr (fun w hw => (by have h := zfH g n cp (Go.Sort.rd v5 e x y l wb wp).pi.1 r (s3.trans he) hm x y (Go.Sort.rd v5 e x y l wb wp).pivot hpv.1 hpv.2 hyn w hw.sat.left; rw [hx] at h; exact h)) ?_)
        rintro v L' ⟨rfl, rfl⟩
        refine gw ?_
        refine e6 (o7 rfl rfl ow km) (gw ?_)
        refine e6 (o7 rfl rfl ow km) (gw ?_)
        refine e6 (I2 (b := 8) rfl rfl ow km) (gw ?_)
        refine j0 rfl rfl (p9 rfl rfl) (fun h113 => ?_) (fun h113 => ?_)
        ·refine l3 (Q3 rfl (c8 (c7 ?_)))
         obtain ⟨pL, sLq⟩ := Go.Sort.pdq_sorts v5 gF d4 x mid (Go.Sort.rd v5 e x y l wb wp).lim true true ow ow r4
         refine gw ?_
         refine e6 (T0 rfl rfl) (gw ?_)
         refine z7 (l8 (Pre := [Blk g 40 (w7 (d4) r)]) (R := _) en rfl pr (fun w hw => ih x mid (Go.Sort.rd v5 e x y l wb wp).lim d4 (r3.trans (s3.trans he)) ow ow (Nat.le_trans (Go.Sort.rd_lim_le (lt := v5) (d := e) (a := x) (b := y) (limit := l) (wb := wb) (wp := wp)) hl) r4 w hw.sat.left ow) ?_)
         rintro v L' ⟨rfl, rfl⟩
         refine gw ?_
         refine ⟨(mid + 1, y, (Go.Sort.rd v5 e x y l wb wp).lim, decide (mid - x ≥ (y - x) / 8), ap, Go.Sort.pdq v5 d4 x mid (Go.Sort.rd v5 e x y l wb wp).lim true true), ?_, od, oz, sr⟩
         exact ⟨by dsimp only; omega, hyn, by dsimp only; omega, Nat.le_trans (Go.Sort.rd_lim_le (lt := v5) (d := e) (a := x) (b := y) (limit := l) (wb := wb) (wp := wp)) hl, pL.1.trans (r3.trans (s3.trans he)), (r6 _ pL sLq).1, (by dsimp only; rw [← hq, Go.Sort.pdq_left h23 h29 hp2 b87 (by rw [hx]; exact ⟨r1, r2⟩) (by rw [hx]; exact h113), hx])⟩
        ·refine l3 (C4 rfl (c8 (c7 ?_)))
         obtain ⟨pL, sLq⟩ := Go.Sort.pdq_sorts v5 gF d4 (mid + 1) y (Go.Sort.rd v5 e x y l wb wp).lim true true ow ow r5
         refine gw ?_
         refine e6 (T0 rfl rfl) (gw ?_)
         refine z7 (l8 (Pre := [Blk g 40 (w7 (d4) r)]) (R := _) en rfl pr (fun w hw => ih (mid + 1) y (Go.Sort.rd v5 e x y l wb wp).lim d4 (r3.trans (s3.trans he)) ow ow (Nat.le_trans (Go.Sort.rd_lim_le (lt := v5) (d := e) (a := x) (b := y) (limit := l) (wb := wb) (wp := wp)) hl) r5 w hw.sat.left ow) ?_)
         rintro v L' ⟨rfl, rfl⟩
         refine gw ?_
         refine ⟨(x, mid, (Go.Sort.rd v5 e x y l wb wp).lim, decide (y - mid ≥ (y - x) / 8), ap, Go.Sort.pdq v5 d4 (mid + 1) y (Go.Sort.rd v5 e x y l wb wp).lim true true), ?_, od, oz, sr⟩
         exact ⟨r1, by dsimp only; omega, by dsimp only; omega, Nat.le_trans (Go.Sort.rd_lim_le (lt := v5) (d := e) (a := x) (b := y) (limit := l) (wb := wb) (wp := wp)) hl, pL.1.trans (r3.trans (s3.trans he)), (r7 _ pL sLq).1, (by dsimp only; rw [← hq, Go.Sort.pdq_right h23 h29 hp2 b87 (by rw [hx]; exact ⟨r1, r2⟩) (by rw [hx]; exact h113), hx])⟩
theorem ziC (g n cp : Nat) (r : List Value) (hm : n < 4294967296) : ∀ (N : Nat), ∀ (a b lim : Nat) (d : Array Nat) (hn : d.size = n) (hab : a ≤ b) (hb : b ≤ n) (hl : lim ≤ 64) (hB : Go.Sort.Below v5 a b d) (w0 : World) (hL : Sat w0 [Blk g 40 (w7 (d) r)]), b - a < N → Calls prog 216 #[sL (some ⟨g, 0, none⟩) n cp, iI a, iI b, iI lim] w0 (D0 w0 (A8 [Blk g 40 (w7 (d) r)]) fun v L => v = .tuple #[] ∧ L = [Blk g 40 (w7 (Go.Sort.pdq v5 d a b lim true true) r)]) := by
 intro N
 induction N with
 | zero => intro _ _ _ _ _ _ _ _ _ _ _ h; exact absurd h (Nat.not_lt_zero _)
 | succ N ih => intro a b lim d hn hab hb hl hB w0 hL h; exact zhm g n cp r hm N ih a b lim d hn hab hb hl hB ow w0 hL
theorem zgA {C : Ctx} {Q : EQ} {env : Env} {ops : Array Oper} {l : List Oper} {L0 L : List Assn} {e : TypeId} {sz g n c : Nat} {cs : List Value} (hl : cs.length = c * sz) (hn : n ≤ c) (hm : c ≤ maxLen) (s : L0.Perm (Blk g e cs :: L)) (h : TL C ops Q l env (OwnA e sz (some ⟨g, 0, none⟩) n c (cs.take (n * sz)) :: L)) : TL C ops Q l env L0 :=
 fun a w ha hw => h a w ha ((hw.perm s).shutOwn hl hn hm)
theorem zf5 (d : Array Nat) : (Go.Sort.sort v5 d).size = d.size := (Go.Sort.sort_sorts v5 gF d).1.1
theorem zeK (d : Array Nat) (r : List Value) {n : Nat} (h : d.size = n) : (w7 d r).take (n * 1) = w6 d.toList := by
 rw [w7, Nat.mul_one, List.take_left' (by rw [D5, Array.length_toList, h])]
theorem zif {cs : List Value} {n : Nat} {xs : List Nat} (h : cs.take (n * 1) = w6 xs) : cs = w7 xs.toArray (cs.drop (n * 1)) := by
 rw [w7]; show cs = w6 xs ++ _; rw [← h, List.take_append_drop]
theorem EJ {n : Nat} {d : Array Nat} (h : d.size = n) : (Go.Sort.pdq v5 d 0 n (K7 n) true true).size = d.size := by subst h; exact zf5 d
theorem ziD {n : Nat} {xs : List Nat} (h : xs.toArray.size = n) : (Go.Sort.pdq v5 xs.toArray 0 n (K7 n) true true).toList = JQ xs := by subst h; exact zj3 xs
theorem zjo (a b : Nat) (h : b ≤ a) (ha : a < 4294967296) (w0) : cR 218 #[sL none 0 0, iI a, iI b] w0 (.tuple #[]) := by
 refine cQ (co 49 [] func218 ?_)
 refine gw ?_
 refine l5 (γ := Nat) (mr 10 39 [6, 7]) (fun k => [(6, iI k)]) (fun _ => _) (fun k => k = a + 1) (fun k => k) (a + 1)
  rfl oa sr ?_
 rintro k u hk
 refine gw ?_
 refine e6 (Qt.dF (p9 rfl rfl) ow) (gw ?_)
 exact i7 (finQ.normal n9 sn (rr))
theorem zjx (l : Nat) (w0) : cR 216 #[sL none 0 0, iI (0 : Nat), iI (0 : Nat), iI l] w0 (.tuple #[]) := by
 refine cQ (co 134 [] func216 ?_)
 refine gw ?_
 refine l5 (γ := Nat) (mr 8 126 [1, 2, 3]) (fun k => [(1, iI (0 : Nat)), (2, iI (0 : Nat))]) (fun _ => _) (fun k => True) (fun k => k) (0)
  trivial oa sr ?_
 rintro k u hk
 refine gw ?_
 refine e6 (o7 rfl rfl ow km) (gw ?_)
 refine e6 (Qt.dT (bM (b := 12) rfl rfl) ow) (gw ?_)
 refine u7 en (fun w hw => zjo 0 0 (Nat.le_refl _) dc w) (gw ?_)
 exact a9 (finQ.ret n9 sn (rr))
theorem zhM (A) (n c : Nat) (xs : List Nat) (hm : n < 4294967296) (w0) (hL : Sat w0 [OwnA 40 1 A n c (w6 xs)]) :
  Calls prog 215 #[sL A n c] w0 (D0 w0 (A8 [OwnA 40 1 A n c (w6 xs)]) fun v L => v = .tuple #[] ∧ L = [OwnA 40 1 A n c (w6 (JQ xs))]) := by
 refine gW (L := [OwnA 40 1 A n c (w6 xs)]) 11 [] func215 hL ?_
 have hxn : xs.length = n := by have := (H2 (hL.ok _ (List.mem_cons_self ..))).2.2; rw [D5] at this; omega
 refine mS (fun hA hz hc0 zA => ?_) (fun g cs hO hct hcl hnc hcm => ?_)
 ·subst hA hz hc0
  obtain rfl : xs = [] := by cases xs with | nil => rfl | cons _ _ => simp at hxn
  refine gw ?_
  refine e6 (r8 uT uT rfl km) (u7 en (fun w hw => FR 0 dc w) (u7 en (fun w hw => zjx (K7 0) w) (gw ?_)))
  refine finQ.normal n9 sr ?_
  exact ⟨rfl, by rw [JQ, List.mergeSort_nil]; rfl⟩
 subst hO
 have m9 := zif hct
 generalize hr : cs.drop (n * 1) = r at m9
 subst m9
 have hsz : xs.toArray.size = n := hxn
 have hb := KY hm
 refine gw ?_
 refine e6 (r8 uT uT rfl km) (u7 en (fun w hw => FR n ow w) (z7 (l8 (Pre := [Blk g 40 (w7 (xs.toArray) r)]) (R := _) en rfl pr (fun w hw => (ziC g n c r hm (n + 1) 0 n (K7 n) xs.toArray hsz (Nat.zero_le _) (Nat.le_refl _) ow (.inl rfl) w hw.sat.left ow)) ?_)))
 rintro v L' ⟨rfl, rfl⟩
 refine zgA (n := n) (c := c) (sz := 1) (by rw [K6, EJ hsz, ← hcl, K6]) hnc hcm pr ?_
 rw [zeK _ _ (by rw [EJ hsz]; exact hsz), ziD hsz]
 refine gw ?_
 exact finQ.normal n9 sr (rr)
theorem zeY {a b : Nat × Nat} (h : p6 a = p6 b) : a = b := by
 obtain ⟨a1, a2⟩ := a
 obtain ⟨b1, b2⟩ := b
 unfold p6 at h
 simp only [Value.agg.injEq, Array.mk.injEq, List.cons.injEq, Value.int.injEq, true_and, and_true] at h
 obtain ⟨h1, h2⟩ := h
 rw [show a1 = b1 by omega, show a2 = b2 by omega]
theorem zjt {ms : Tm} {done : List (Nat × Nat)} (h1 : done.Nodup) (h2 : ∀ x ∈ done, x ∈ o9 ms) : (iA done).length ≤ (iA (o9 ms)).length := qP (zI h1) fun x hx => BQ.2 (h2 _ (BQ.1 hx))
theorem zjs {ms : Tm} {done : List (Nat × Nat)} (hn : (o9 ms).Nodup) (h1 : done.Nodup) (h2 : ∀ x ∈ done, x ∈ o9 ms) (h3 : ∀ p ∈ ms, p.1 ∈ done) : JQ (iA done) = fX ms :=
 zjr ((List.perm_ext_iff_of_nodup h1 hn).2 fun x => ⟨h2 x, fun hx => by obtain ⟨p, hp, rfl⟩ := List.mem_map.1 hx; exact h3 p hp⟩)
theorem zhz {w : World} {M : List Nat} {b : Nat} {ms : Tm} (h : Ro w M (u6 b p6 hv (ms))) : (o9 ms).Nodup := by
 obtain ⟨⟨es, ck, _, _, _, _, hn⟩, _⟩ := h
 exact hn
theorem HP (xs : List Nat) : (JQ xs).length = xs.length := (iK xs).length_eq
theorem zgh (xs : List Nat) (x : Nat) : w6 (xs ++ [x]) = w6 xs ++ [uI x] := by simp [w6]
theorem zcB (E : Nat → i6) (tb mb gh : Nat) (ms : Tm) (hn : (iA (o9 ms)).length < 4294967296) (w0) (hB : Ro w0 [] (Blk tb 243 (q7 E gh mb))) (hM : Ro w0 [] (u6 mb p6 hv (ms))) :
  cP 208 #[pZ tb] w0 fun v L => ∃ O d, v = sL O (fX ms).length d ∧ L = [OwnA 40 1 O (fX ms).length d (w6 (fX ms))] := by
 refine co 27 [.tmp 2] func208 ?_
 have hnd := zhz hM
 refine m6 40 1 (gw ?_)
 refine z7 (zda uT rfl hM (fun it ck es hr => (gw ?_)))
 refine l5 (γ := List (Nat × Nat) × y8 × Nat) (mr 12 12 [3, 4]) (fun g => [(3, sL g.2.1 (iA g.1).length g.2.2)]) (fun g => [CM it mb ck es p6 hv (ms) g.1, OwnA 40 1 g.2.1 (iA g.1).length g.2.2 (w6 (iA g.1))]) (fun g => g.1.Nodup ∧ ∀ x ∈ g.1, x ∈ o9 ms) (fun g => ms.length - g.1.length) (([], none, 0))
  ⟨List.nodup_nil, (fun _ h => nomatch h)⟩ oa sr ?_
 rintro ⟨done, O, d⟩ u ⟨hi1, hi2⟩
 dsimp only at hi1 hi2
 show TC _ _ _ (puts [(3, sL O (iA done).length d)] (scr _ u _)) [CM it mb ck es p6 hv (ms) done, OwnA 40 1 O (iA done).length d (w6 (iA done))]
 have hdl : (iA done).length < 4294967296 := Nat.lt_of_le_of_lt (zjt hi1 hi2) hn
 refine gw ?_
 refine z7 (zc7 (fun _ _ h => zeY h) hr rfl (fun hend => ?_) (fun x a hm hd => ?_))
 ·refine gw ?_
  refine i7 (c8 (gw ?_))
  refine z7 (l8 (Pre := [OwnA 40 1 O (iA done).length d (w6 (iA done))]) (R := _) en rfl pm1 (fun w hw => zhM O (iA done).length d (iA done) hdl w hw.sat.left) ?_)
  rintro v L' ⟨rfl, rfl⟩
  refine gw ?_
  refine a9 (finQ.ret rv (sx [0]) ?_)
  have hall := zjs hnd hi1 hi2 hend
  have hll := HP (iA done)
  rw [hall] at hll ⊢
  rw [← hll]
  exact ⟨O, d, rfl, rfl⟩
 ·refine gw ?_
  refine e6 (zew hr rfl w5 hm) (gw ?_)
  intro b4
  refine j9 rfl (j5 (v := p6 x) rfl rfl (by exact ce249) (by rfl) (by rfl) (gw ?_))
  refine j0 rfl rfl (z6 (b := 0) rfl rfl) (fun h18 => gw ?_) (fun h18 => gw ?_)
  ·refine z7 (m5 (v := uI x.2) uT elem40 dc rfl rfl (fun g22 => (z7 (S9 (news := [uI x.2]) uT elem40 rfl rfl (j8 w5) rfl (by intro u hu; rw [List.mem_singleton.1 hu]; rfl) kx ow (fun O' d' => (gw ?_))))))
   refine ⟨(done ++ [x], O', d'), ?_, ?_, ⟨?_, (fm (by show sL O' ((iA done).length + 1) d' = sL O' (iA (done ++ [x])).length d'; rw [pG, if_pos h18, s9]) nb)⟩, (by dsimp only; rw [pG, if_pos h18, s9, zgh]; exact sp)⟩
   ·exact (bB hi1 hi2 hm hd).1
   ·exact (bB hi1 hi2 hm hd).2
   exact K8
  ·refine ⟨(done ++ [x], O, d), ?_, ?_, ⟨?_, (fm (by show sL O (iA done).length d = sL O (iA (done ++ [x])).length d; rw [pG, if_neg h18]) nb)⟩, (by dsimp only; rw [pG, if_neg h18]; exact sp)⟩
   ·exact (bB hi1 hi2 hm hd).1
   ·exact (bB hi1 hi2 hm hd).2
   exact K8
theorem zdg (tb : Nat) (w0) :
  cP 194 #[pZ tb] w0 fun v L => ∃ b, v = .func (.func 207) #[] #[pZ b] ∧ L = [Blk b 155 [pZ tb]] := by
 refine co 4 [.tmp 2] func194 ?_
 refine gw ?_
 intro b1
 refine gw ?_
 refine e6 (E9 (fs := []) (cs := [pZ b1]) rfl rfl) (gw ?_)
 refine a9 (finQ.ret rv sr ?_)
 exact ⟨_, rfl, rfl⟩
theorem zcu (E : Nat → i6) (tb mb gh : Nat) (ms : Tm) (hn : (iA (o9 ms)).length < 4294967296) (vs : List Nat) (hvs : vs = fX ms) (n : Nat) (hvn : vs.length = n) (b1 l : Nat) (J : Bool → List (Fin n) → List Assn → Prop) (w0) (L0 : List Assn) (h0 : Sat w0 L0) (hJ : J true [] L0) (hB : Ro w0 (A8 L0) (Blk tb 243 (q7 E gh mb))) (hM : Ro w0 (A8 L0) (u6 mb p6 hv (ms))) (hP : Ro w0 (A8 L0) (Blk b1 155 [pZ tb]))
  (hY : ∀ pre x w' L', (fun ys : List (Fin n) => ∃ j, j ≤ n ∧ ys = (List.finRange n).take j) (pre ++ [x]) → J true pre L' → St w0 (A8 L0) L' w' → YieldAt Fence.wide 0 prog l ((fun i : Fin n => [uI ↑(vs.getD i.val 0), hv (s4 E ms (0, vs.getD i.val 0))]) x).toArray w' fun e w'' => ∃ L'', St w' (A8 L') L'' w'' ∧ ((e = .returned (.bool true) ∧ J true (pre ++ [x]) L'') ∨ (e = .returned (.bool false) ∧ J false (pre ++ [x]) L''))) :
  Calls prog 207 #[.func (.yield l) #[] #[], pZ b1] w0 (D0 w0 (A8 L0) fun v L => (∃ ys, ys = List.finRange n ∧ J true ys L) ∨ (∃ pre, True ∧ J false pre L)) := by
 refine gW (L := L0) 21 [] func207 h0 ?_
 have hnn : n < 4294967296 := by rw [← hvn, hvs, fX, HP]; exact hn
 refine gw ?_
 refine z7 (l8 (Pre := []) (R := L0) en rfl pr (fun w hw => zcB E tb mb gh ms hn w (u5 (Pre := []) hw hB) (u5 (Pre := []) hw hM)) ?_)
 rintro v L' ⟨O, d, rfl, rfl⟩
 rw [← hvs, hvn]
 show TL _ _ _ _ (Env.put _ _ (sL O n d)) (OwnA 40 1 O n d (w6 vs) :: L0)
 refine gw ?_
 refine l5 (γ := Nat × List Assn) (mr 8 13 [4]) (fun g => [(8, iI g.1)]) (fun g => OwnA 40 1 O n d (w6 vs) :: g.2) (fun g => g.1 ≤ n ∧ J true ((List.finRange n).take g.1) g.2) (fun g => n - g.1) ((0, L0))
  ⟨Nat.zero_le _, hJ⟩ oa sr ?_
 rintro ⟨k, Z⟩ u ⟨hk, hj⟩
 dsimp only at hk hj
 show TC _ _ _ (puts [(8, iI k)] (scr _ u _)) (OwnA 40 1 O n d (w6 vs) :: Z)
 refine gw ?_
 refine j0 rfl rfl (p9 rfl rfl) (fun h9 => ?_) (fun h9 => ?_)
 ·have hkm : k < n := h9
  refine gw ?_
  refine e6 (i5 uT cT rfl rfl ow (x8 w5) (by rw [D5]; omega)) (e6 (a8 rfl (A9 (x8 w5) oT (F6 ow))) (gw ?_))
  refine e6 (A5 (a := iI 0) (b := uI ↑(vs.getD k 0)) (v := p6 (0, vs.getD k 0)) rfl rfl (fun _ => by kernel_rfl)) (u7 en (fun w hw => yY E tb mb gh ms 0 (vs.getD k 0) ow w (Rd.ro hB w hw) (Rd.ro hM w hw)) (z7 (uL (L1 := [OwnA 40 1 O n d (w6 vs)]) (enc := (fun i : Fin n => [uI ↑(vs.getD i.val 0), hv (s4 E ms (0, vs.getD i.val 0))])) ⟨k, hkm⟩ (fun w' L' => hY _ _ w' L' ⟨k + 1, hkm, (X9 hkm).symm⟩) rfl rfl hj (fun Z2 hj2 => ?_) (fun Z2 hj2 => ?_))))
  ·rw [← X9 hkm] at hj2
   refine gw ?_
   refine ⟨(k + 1, Z2), ?_, od, oz, sr⟩
   exact ⟨by show _ ≤ _; dsimp only; omega, hj2⟩
  ·refine gw ?_
   exact a9 (finQ.ret n9 (sd sr) (.inr ⟨_, trivial, hj2⟩))
 ·refine gw ?_
  refine i7 (finQ.normal n9 (sd sr) ?_)
  obtain rfl : k = n := by omega
  rw [dS] at hj
  exact .inl ⟨_, rfl, hj⟩
theorem zia (E : Nat → i6) (tb mb gh : Nat) (ms : Tm) (hn : (iA (o9 ms)).length < 4294967296) (vs : List Nat) (hvs : vs = fX ms) (n : Nat) (hvn : vs.length = n) (b1 : Nat) (w) (L0 : List Assn) (h0 : Sat w L0) (hB : Ro w (A8 L0) (Blk tb 243 (q7 E gh mb))) (hM : Ro w (A8 L0) (u6 mb p6 hv (ms))) (hP : Ro w (A8 L0) (Blk b1 155 [pZ tb])) :
  KO prog 207 #[pZ b1] (fun i : Fin n => [uI ↑(vs.getD i.val 0), hv (s4 E ms (0, vs.getD i.val 0))]) (fun ys => ys = List.finRange n) (fun _ => True) (fun ys : List (Fin n) => ∃ j, j ≤ n ∧ ys = (List.finRange n).take j) w L0 := fun l J hJ hY =>
 zcu E tb mb gh ms hn vs hvs n hvn b1 l J w L0 h0 hJ hB hM hP hY
theorem zin {n j : Nat} {pre : List (Fin n)} {x : Fin n} (h : pre ++ [x] = (List.finRange n).take j) : x.val = pre.length ∧ pre.length < n := by
 have h1 := congrArg List.length h
 rw [s9, List.length_take, List.length_finRange] at h1
 have h2 : (pre ++ [x])[pre.length]? = some x := by simp
 have h3 : pre.length < n := by omega
 rw [h] at h2
 simp [show pre.length < j by omega, h3] at h2
 exact ⟨by rw [← h2], h3⟩
theorem zaQ (E : Nat → i6) (hEm : ∀ w, Tabs 3 1 w [] → Calls prog 55 #[] w (nX w (.agg (m9 (H3 E)).toArray))) (hE : ∀ h, E (h + 1) = F8 (h + 1) (E h) (E h)) (tb mb gh : Nat) (ms : Tm) (g : Nat → i6) (ht : TreeOk E gh g ms) (hn : (iA (o9 ms)).length < 4294967296) (b : Nat) (hb : fE b) (w0 : World) (hB : Ro w0 [] (Blk tb 243 (q7 E gh mb))) (hM : Ro w0 [] (u6 mb p6 hv (ms))) (hT : Tabs 3 1 w0 []) :
    Calls prog 161 #[.pointer (some ⟨tb, 0, none⟩), .int .u64 (b : Int)] w0 (D0 w0 [] fun v L => ∃ tb2 m2 ms2, v = .tuple #[.pointer (some ⟨tb2, 0, none⟩), .nilIface] ∧ L = [Blk tb2 243 (q7 E (s7 b) m2), u6 m2 p6 hv (ms2)] ∧ TreeOk E (s7 b) (tJ E g (fX ms) b) ms2) := by
  refine N4 (L := []) (n := 46) (rs := [.cell 4 155, .cell 5 51]) func161 rfl rfl rfl (Nat.le_of_ble_eq_true rfl) (Sat.nil _) ?_
  have hh2 := aL hb
  have hbl := gK hb
  refine c8 ?_
  refine c7 ?_
  refine z7 (iR (v := .int .u64 (b : Int)) rfl (fun b3 => ?_))
  refine z7 (z4 zT (fun b4 => ?_))
  refine z7 (z4 zT (fun b5 => ?_))
  refine l3 ?_
  refine c8 ?_
  refine c8 ?_
  refine c7 ?_
  refine o8 ?_
  refine e6 (fO uT rfl) ?_
  refine l3 ?_
  refine C4 rfl ?_
  refine w8 ?_
  refine c8 ?_
  refine c7 ?_
  refine e6 (a8 rfl (i9 aH oT rfl)) ?_
  refine z7 (R1 J39 rfl (fun w hw => Calls.ret (oU b hb w)) ?_)
  refine o8 ?_
  refine e6 (s8 rfl rfl) ?_
  refine e6 (s8 rfl rfl) ?_
  refine C3 ?_
  refine C3 ?_
  refine l3 ?_
  refine c8 ?_
  refine c8 ?_
  refine c7 ?_
  refine o8 ?_
  refine e6 (F0 uT rfl) ?_
  refine l3 ?_
  refine C4 rfl ?_
  refine w8 ?_
  refine c8 ?_
  refine c7 ?_
  refine o8 ?_
  refine z7 (l8 (Pre := []) (R := _) J67 rfl pr (fun w hw => DX E hEm (s7 b) hh2 w (hT.at hw)) ?_)
  rintro v L' ⟨tb2, m2, rfl, rfl⟩
  refine o8 ?_
  refine e6 (s8 rfl rfl) ?_
  refine e6 (s8 rfl rfl) ?_
  refine z7 (z4 zT (fun b8 => ?_))
  refine j9 rfl (j5 rfl cw (by exact ce155) (by rfl) (by rfl) ?_)
  refine C3 ?_
  refine l3 ?_
  refine c8 ?_
  refine c8 ?_
  refine c7 ?_
  refine o8 ?_
  refine e6 (F0 uT rfl) ?_
  refine l3 ?_
  refine C4 rfl ?_
  refine w8 ?_
  refine c8 ?_
  refine c8 ?_
  refine c7 ?_
  refine o8 ?_
  refine z7 (l8 (Pre := []) (R := _) J194 rfl pr (fun w hw => zdg tb w) ?_)
  rintro v L' ⟨bF, rfl, rfl⟩
  refine l3 ?_
  refine C5 ?_
  refine gJ (α := Fin (fX ms).length) (fun i : Fin (fX ms).length => [Value.int .u64 (((fX ms).getD i.val 0 : Nat) : Int), hv (s4 E ms (0, (fX ms).getD i.val 0))]) (fun ys => ys = List.finRange (fX ms).length) (fun _ => True) (fun ys : List (Fin (fX ms).length) => ∃ j, j ≤ (fX ms).length ∧ ys = (List.finRange (fX ms).length).take j) (fun pre L' => ∃ ms2, L' = [Blk tb2 243 (q7 E (s7 b) m2), u6 m2 p6 hv (ms2)] ∧ TreeOk E (s7 b) (mP E g ((fX ms).take pre.length)) ms2 ∧ ∀ y ∈ (fX ms).take pre.length, y < b) (fun c ys L' => c = .exit 0 ∧ ∃ ms2 k, L' = [Blk tb2 243 (q7 E (s7 b) m2), u6 m2 p6 hv (ms2)] ∧ (TreeOk E (s7 b) (mP E g ((fX ms).take k)) ms2 ∧ ∀ y ∈ (fX ms).take k, y < b) ∧ k < (fX ms).length ∧ b ≤ (fX ms).getD k 0) (L0 := [Blk tb2 243 (q7 E (s7 b) m2), u6 m2 p6 hv ([])]) (R := [Blk bF 155 [.pointer (some ⟨tb, 0, none⟩)], Blk b8 155 [.pointer (some ⟨tb2, 0, none⟩)], Blk b5 51 [.nilIface], Blk b4 155 [.pointer none], Blk b3 40 [.int .u64 (b : Int)]]) rfl rfl J207 rfl (fun _ => rfl) (pm2.trans (pc pm2)) ⟨[], rfl, by rw [List.length_nil, List.take_zero, zga]; exact oA hE _, (fun y hy => by simp at hy)⟩ (fun w L' hw => zia E tb mb gh ms hn (fX ms) rfl (fX ms).length rfl bF w L' hw.sat.left (u5 hw hB) (u5 hw hM) (y9 hw (.head _))) ?_ ?_ ?_
  · rintro w' l Dd Rr Rb pre x L' ⟨j, hj, hpj⟩ ⟨ms2, rfl, ht2, hlt⟩ hst
    obtain ⟨hxv, hpl⟩ := zin hpj
    have hb3 := y9 (A := Blk b3 40 [.int .u64 (b : Int)]) hst (.tail _ (.tail _ (.tail _ (.tail _ (.head _)))))
    have hb8 := y9 (A := Blk b8 155 [.pointer (some ⟨tb2, 0, none⟩)]) hst (.tail _ (.head _))
    have hT1 := hT.pre hst
    have hgx : s4 E ms (0, ((fX ms).getD x.val 0)) = g ((fX ms).getD x.val 0) := ht.leafv (ht.lv.1 (E6 0 x.isLt)).1
    refine c8 ?_
    refine c7 ?_
    refine C3 ?_
    refine l3 ?_
    refine c7 ?_
    refine z7 (z4 zT (fun b10 => ?_))
    refine j9 rfl (j5 (v := hv (_)) rfl rfl (o5 ce49) (N7 _) (v9 _) ?_)
    refine l3 ?_
    refine ⟨_, Sub.trans (sk sr) (e5 pm1), ?_⟩
    refine C5 ?_
    refine c8 ?_
    refine c8 ?_
    refine c7 ?_
    refine o8 ?_
    refine e6 (a8 rfl (i9 (v := .int .u64 (b : Int)) (c9 hb3) oT rfl)) ?_
    refine j0 rfl rfl (T0 rfl rfl) (fun h37 => ?_) (fun h37 => ?_)
    · refine l3 ?_
      refine Q3 rfl ?_
      refine i7 ?_
      exact ⟨_, Sub.trans (sk (sk (sk (sk (sd I8))))) (sk (Sub.trans (sk (Sub.trans (sk (Sub.trans (sk sr) (e5 pm1))) (e5 pm1))) (e5 pm1))), rfl, ms2, pre.length, rfl, ⟨ht2, hlt⟩, hpl, by rw [← hxv]; exact h37⟩
    · refine l3 ?_
      refine C4 rfl ?_
      refine w8 ?_
      refine c8 ?_
      refine c7 ?_
      have hs : ((fX ms).getD x.val 0) < 2 ^ s7 b := by omega
      refine e6 (a8 rfl (i9 (v := .pointer (some ⟨tb2, 0, none⟩)) (c9 hb8) oT rfl)) ?_
      refine o8 ?_
      refine e6 (a8 rfl (gR (x := s4 E ms (0, ((fX ms).getD x.val 0))) N3 rT ce49)) ?_
      refine z7 (l8 (Pre := [Blk tb2 243 (q7 E (s7 b) m2), u6 m2 p6 hv (ms2)]) (R := _) J102 rfl (pm3.trans (pc pm3)) (fun w hw => xK E tb2 m2 (s7 b) ms2 ((fX ms).getD x.val 0) (s4 E ms (0, ((fX ms).getD x.val 0))) hh2 hs w hw.sat.left (hT1.pre hw)) ?_)
      rintro v L' ⟨rfl, rfl⟩
      refine C3 ?_
      refine l3 ?_
      refine c8 ?_
      refine c7 ?_
      refine o8 ?_
      refine e6 (F0 uT rfl) ?_
      refine l3 ?_
      refine C4 rfl ?_
      refine w8 ?_
      refine ⟨_, Sub.trans (sk (sk (sk (sk (sd I8))))) (Sub.trans (sk (Sub.trans (sk sr) (e5 pm3))) (e5 pm2)), _, rfl, ?_⟩
      rw [hgx, s9, zgb hpl, ← zep, ← hxv]
      rw [← hxv] at ht2 hlt
      exact ⟨ht2.set hs _, fun y hy => (List.mem_append.1 hy).elim (hlt y) (fun e => by rw [List.mem_singleton.1 e]; omega)⟩
  · rintro Dd ys L' rfl ⟨ms2, rfl, ht2, hlt⟩
    rw [List.length_finRange, List.take_length] at ht2 hlt
    refine c8 ?_
    refine c7 ?_
    refine e6 (a8 rfl (i9 (v := .pointer (some ⟨tb2, 0, none⟩)) (s6 4 rfl) oT rfl)) ?_
    refine j9 rfl (Y7 rfl cw (by exact ce155) (by rfl) (by rfl) ?_)
    refine j9 rfl (cY rfl cw (by exact ce51) (by rfl) (by rfl) ?_)
    refine l3 ?_
    refine a9 ?_
    refine finQ.retM rfl sr (j7 rfl (i9 (s6 5 rfl) oT (rfl)) (j7 rfl (i9 (s6 4 rfl) oT (rfl)) n9)) (sk (sk (sd (sd (sd (sd (sd I8))))))) ?_
    refine ⟨tb2, m2, ms2, rfl, rfl, ?_⟩
    rw [← zf8 E g hlt]
    exact ht2
  · rintro Dd c ys L' - ⟨rfl, ms2, k, rfl, ⟨ht2, hlt⟩, hk, hbk⟩
    refine i7 ?_
    refine c8 ?_
    refine c7 ?_
    refine e6 (a8 rfl (i9 (v := .pointer (some ⟨tb2, 0, none⟩)) (s6 4 rfl) oT rfl)) ?_
    refine j9 rfl (Y7 rfl cw (by exact ce155) (by rfl) (by rfl) ?_)
    refine j9 rfl (cY rfl cw (by exact ce51) (by rfl) (by rfl) ?_)
    refine l3 ?_
    refine a9 ?_
    refine finQ.retM rfl sr (j7 rfl (i9 (s6 5 rfl) oT (rfl)) (j7 rfl (i9 (s6 4 rfl) oT (rfl)) n9)) (sk (sk (sd (sd (sd (sd (sd I8))))))) ?_
    refine ⟨tb2, m2, ms2, rfl, rfl, ?_⟩
    rw [← zf9 E g (DU ht.nodup) hk rfl hlt hbk]
    exact ht2
end Go.Proofs.YtgdjcmehlhebdaaGreatDoor
