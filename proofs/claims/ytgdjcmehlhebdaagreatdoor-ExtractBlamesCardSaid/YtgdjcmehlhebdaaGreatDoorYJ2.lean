/- Walks: the sort of a slice of numbers: the partial insertion -/
import Derived.Test.YtgdjcmehlhebdaaGreatDoorYJ1
import Derived.Test.YtgdjcmehlhebdaaGreatDoorXV1
set_option maxHeartbeats 25600000
namespace Go.Proofs.YtgdjcmehlhebdaaGreatDoor
open _root_.Go.Proofs.Tryz
open Go.E
set_option maxRecDepth 4000
theorem zka (g n cp : Nat) (d : Array Nat) (r : List Value) (hn : d.size = n) (hm : n < 4294967296) (a b : Nat) (hab : a < b) (hb : b ≤ n) (w0 : World) (hL : Sat w0 [Blk g 40 (blkD (d) r)]) :
  Calls prog 223 #[.slice (some ⟨g, 0, none⟩) n cp, .int .i64 ((a : Nat) : Int), .int .i64 ((b : Nat) : Int)] w0 (Post w0 (fps [Blk g 40 (blkD (d) r)]) fun v L => v = .bool (Go.Sort.partialInsertionSort ltN d a b).2 ∧ L = [Blk g 40 (blkD ((Go.Sort.partialInsertionSort ltN d a b).1) r)]) := by
 refine cof (L := [Blk g 40 (blkD (d) r)]) 133 [.tmp 6] func223 hL ?_
 refine gw ?_
 refine TC.loop (γ := Nat × Nat × Array Nat) [13, 14, 17, 18, 19, 20, 21, 22, 23, 24, 25, 26, 27, 28, 29, 30, 31, 32, 33, 34, 7, 35, 36, 37, 6, 38, 39, 40, 41, 42, 43, 44, 45, 46, 47, 48, 49, 50, 51, 52, 53, 54, 55, 56, 57, 58, 59, 60, 61, 62, 63, 9, 64, 65, 68, 69, 70, 71, 72, 73, 74, 75, 76, 77, 78, 79, 80, 81, 82, 83, 84, 85, 86, 87, 88, 89, 90, 91, 92, 93, 94, 66, 67, 95, 96, 97, 98, 99, 100, 10, 101, 102, 103, 106, 107, 108, 109, 110, 111, 112, 113, 114, 115, 116, 117, 118, 119, 120, 121, 122, 123, 124, 125, 126, 127, 128, 129, 130, 131, 132, 104, 105, 15, 16, 8] (fun q => [(8, .int .i64 ((q.1 : Nat) : Int)), (7, .int .i64 ((q.2.1 : Nat) : Int))]) (fun q => [Blk g 40 (blkD q.2.2 r)]) (fun q => q.1 ≤ 5 ∧ a < q.2.1 ∧ q.2.1 ≤ b ∧ q.2.2.size = n ∧ Go.Sort.partialIns ltN a b (5 - q.1) q.2.1 q.2.2 = (Go.Sort.partialInsertionSort ltN d a b)) (fun q => 5 - q.1) ((0, a + 1, d))
  ⟨by dsimp only; omega, by dsimp only; omega, by dsimp only; omega, hn, rfl⟩ ⟨Out.refl _ _, ag⟩ sr ?_
 rintro ⟨t, i, e⟩ u ⟨ht, hai, hib, he, hq⟩
 dsimp only at ht hai hib he hq
 show TC _ _ _ (puts [(8, .int .i64 ((t : Nat) : Int)), (7, .int .i64 ((i : Nat) : Int))] (scr _ u _)) [Blk g 40 (blkD (e) r)]
 refine gw ?_
 refine S.dec rfl rfl (Qt.lt (b := 5) rfl rfl) (fun h14 => ?_) (fun h14 => ?_)
 ·refine S.nil (S.if_t rfl (TC.skip (TC.seq (TC.block ?_))))
  refine TC.cutseq (γ := Nat) [17, 18, 19, 20, 21, 22, 23, 24, 25, 26, 27, 28, 29, 30, 31, 32, 33, 34, 7] (fun k => [(7, .int .i64 ((k : Nat) : Int))]) (fun k => [Blk g 40 (blkD e r)]) (fun k => i ≤ k ∧ k ≤ b ∧ Go.Sort.scanSorted ltN e b i = k) ?_ ?_
  ·refine gw ?_
   refine TC.loop (γ := Nat) [17, 18, 19, 20, 21, 22, 23, 24, 25, 26, 27, 28, 29, 30, 31, 32, 33, 34, 7] (fun k => [(7, .int .i64 ((k : Nat) : Int))]) (fun _ => _) (fun k => i ≤ k ∧ k ≤ b ∧ Go.Sort.scanSorted ltN e b k = Go.Sort.scanSorted ltN e b i) (fun k => b - k) (i)
    ⟨Nat.le_refl _, hib, rfl⟩ ⟨Out.refl _ _, ag⟩ sr ?_
   rintro k u ⟨hik, hkb, hks⟩
   refine gw ?_
   refine dw ([], []) (gw ?_)
   refine D.decX (k := 2) rfl (by kernel_rfl) (by kernel_rfl) (by kernel_rfl) rfl rfl (Qt.lt rfl rfl) (fun h19 => gw ?_) (fun h19 => gw ?_)
   ·refine D.gY 6 rfl rfl (Qt.index uT cT rfl rfl ow (Has.blk hz0) (by simp only [zaa]; omega)) ?_
    refine D.gY 7 rfl rfl (Qt.load rfl (Ld.sl (Has.blk hz0) oT (zak (by (try dsimp only); omega)))) (gw ?_)
    refine D.gY 10 rfl rfl (Qt.sub (b := 1) rfl rfl ow km) ?_
    refine D.gY 11 rfl rfl (Qt.index uT cT rfl rfl ow (Has.blk hz0) (by simp only [zaa]; omega)) ?_
    refine D.gY 12 rfl rfl (Qt.load rfl (Ld.sl (Has.blk hz0) oT (zak (by (try dsimp only); omega)))) ?_
    by_cases h30 : ltN e[k]! e[k - 1]! = true
    ·refine D.cg0 13 rfl rfl J224 (fun w hw => zcr h30 w) (gw ?_)
     refine D.fi (gw ?_)
     refine TC.exit ?_
     refine ⟨k, ?_, ⟨?_, ag⟩, sr⟩
     ·exact ⟨hik, hkb, by rw [← hks, zqV h30]⟩
     exact outs
    ·refine D.cg0 13 rfl rfl J224 (fun w hw => zcs h30 w) (gw ?_)
     refine D.fi (gw ?_)
     refine ⟨k + 1, ?_, ?_, ⟨?_, ag⟩, sr⟩
     ·exact ⟨by omega, by omega, (zsw h19 h30).symm.trans hks⟩
     ·show _ < _; dsimp only; omega
     exact outs
   ·refine D.fi (gw ?_)
    refine TC.exit ?_
    refine ⟨k, ?_, ⟨?_, ag⟩, sr⟩
    ·exact ⟨hik, hkb, by rw [← hks, zqU h19]⟩
    exact outs
  ·rintro k u ⟨hik, hkb, hk⟩
   refine gw ?_
   refine S.dec rfl rfl (Qt.eq rfl rfl) (fun h37 => gw ?_) (fun h37 => gw ?_)
   ·refine TC.ret (finQ.ret rv sr ?_)
    rw [← hq, zsz ow hk h37]
    exact ⟨rfl, rfl⟩
   ·refine S.r (Qt.sub rfl rfl ow km) ?_
    refine S.dec rfl rfl (Qt.lt (b := 50) rfl rfl) (fun h41 => gw ?_) (fun h41 => gw ?_)
    ·refine TC.ret (finQ.ret rv sr ?_)
     rw [← hq, zq0 ow hk h37 h41]
     exact ⟨rfl, rfl⟩
    ·refine dw ([15, 17], []) (gw ?_)
     refine D.p 4 rfl (Qt.sub (b := 1) rfl rfl ow km) (gw ?_)
     refine D.qY 7 rfl (Qt.sub (b := 1) rfl rfl ow km) ?_
     refine D.qY 8 rfl (Qt.index uT cT rfl rfl ow (Has.blk hz0) (by simp only [zaa]; omega)) ?_
     refine D.qY 9 rfl (Qt.load rfl (Ld.sl (Has.blk hz0) oT (zak (by (try dsimp only); omega)))) (gw ?_)
     refine D.qY 12 rfl (Qt.index uT cT rfl rfl ow (Has.blk hz0) (by simp only [zaa]; omega)) ?_
     refine D.qY 13 rfl (Qt.load rfl (Ld.sl (Has.blk hz0) oT (zak (by (try dsimp only); omega)))) ?_
     refine D.qY 14 rfl (Qt.index1 uT cT rfl rfl ow (Has.blk hz0) (by simp only [zaa]; omega)) ?_
     refine D.oN 15 rfl (OpV.storeE0 rfl cw cT rfl rfl (by simp only [zaa, Array.size_setIfInBounds]; omega) (zaE (by (try dsimp only); omega)) (sbk ?_))
     refine D.qY 16 rfl (Qt.index1 (i := k - 1) uT cT rfl rfl ow (Has.blk hz0) (by simp only [zaa, Array.size_setIfInBounds]; omega)) ?_
     refine D.oN 17 rfl (OpV.storeE0 rfl cw cT rfl rfl (by simp only [zaa, Array.size_setIfInBounds]; omega) (zaE (by (try simp only [Array.size_setIfInBounds]); omega)) (sbk ?_))
     refine D.fi ?_
     refine TC.cutseq (γ := Array Nat) [58, 59, 60, 61, 62, 63, 9, 64, 65, 68, 69, 70, 71, 72, 73, 74, 75, 76, 77, 78, 79, 80, 81, 82, 83, 84, 85, 86, 87, 88, 89, 90, 91, 92, 93, 94, 66, 67] (fun f2 => []) (fun f2 => [Blk g 40 (blkD f2 r)]) (fun f2 => f2.size = n ∧ f2 = Go.Sort.fixDown ltN a k (Go.Sort.swp e k (k - 1))) ?_ ?_
     ·refine gw ?_
      refine S.r (Qt.sub rfl rfl ow km) ?_
      refine S.dec rfl rfl (Qt.ge (b := 2) rfl rfl) (fun h61 => gw ?_) (fun h61 => gw ?_)
      ·refine S.r (Qt.sub (b := 1) rfl rfl ow km) (gw ?_)
       refine TC.loop (γ := Nat × Array Nat) [64, 65, 68, 69, 70, 71, 72, 73, 74, 75, 76, 77, 78, 79, 80, 81, 82, 83, 84, 85, 86, 87, 88, 89, 90, 91, 92, 93, 94, 66, 67, 9] (fun q => [(9, .int .i64 ((q.1 : Nat) : Int))]) (fun q => [Blk g 40 (blkD q.2 r)]) (fun q => q.1 < n ∧ q.2.size = n ∧ Go.Sort.shiftDown ltN q.1 q.2 = Go.Sort.shiftDown ltN (k - 1) (Go.Sort.swp e k (k - 1))) (fun q => q.1) ((k - 1, Go.Sort.swp e k (k - 1)))
        ⟨by dsimp only; omega, (Go.Sort.swp_size _ _ _).trans he, rfl⟩ ⟨Out.refl _ _, ag⟩ sr ?_
       rintro ⟨j, f⟩ u ⟨hj, hf, hqf⟩
       dsimp only at hj hf hqf
       show TC _ _ _ (puts [(9, .int .i64 ((j : Nat) : Int))] (scr _ u _)) [Blk g 40 (blkD (f) r)]
       refine gw ?_
       refine S.dec rfl rfl (Qt.ge (b := 1) rfl rfl) (fun h65 => gw ?_) (fun h65 => gw ?_)
       ·refine dw ([], []) (gw ?_)
        refine D.qY 2 rfl (Qt.index uT cT rfl rfl ow (Has.blk hz0) (by simp only [zaa]; omega)) ?_
        refine D.qY 3 rfl (Qt.load rfl (Ld.sl (Has.blk hz0) oT (zak (by (try dsimp only); omega)))) (gw ?_)
        refine D.qY 6 rfl (Qt.sub (b := 1) rfl rfl ow km) ?_
        refine D.qY 7 rfl (Qt.index uT cT rfl rfl ow (Has.blk hz0) (by simp only [zaa]; omega)) ?_
        refine D.qY 8 rfl (Qt.load rfl (Ld.sl (Has.blk hz0) oT (zak (by (try dsimp only); omega)))) ?_
        by_cases h77 : ltN f[j]! f[j - 1]! = true
        ·refine D.c0 9 rfl J224 (fun w hw => zcr h77 w) (gw ?_)
         refine D.fi (gw ?_)
         refine dw ([15, 17], []) (gw ?_)
         refine D.p 4 rfl (Qt.sub (b := 1) rfl rfl ow km) (gw ?_)
         refine D.qY 7 rfl (Qt.sub (b := 1) rfl rfl ow km) ?_
         refine D.qY 8 rfl (Qt.index uT cT rfl rfl ow (Has.blk hz0) (by simp only [zaa]; omega)) ?_
         refine D.qY 9 rfl (Qt.load rfl (Ld.sl (Has.blk hz0) oT (zak (by (try dsimp only); omega)))) (gw ?_)
         refine D.qY 12 rfl (Qt.index uT cT rfl rfl ow (Has.blk hz0) (by simp only [zaa]; omega)) ?_
         refine D.qY 13 rfl (Qt.load rfl (Ld.sl (Has.blk hz0) oT (zak (by (try dsimp only); omega)))) ?_
         refine D.qY 14 rfl (Qt.index1 uT cT rfl rfl ow (Has.blk hz0) (by simp only [zaa]; omega)) ?_
         refine D.oN 15 rfl (OpV.storeE0 rfl cw cT rfl rfl (by simp only [zaa, Array.size_setIfInBounds]; omega) (zaE (by (try dsimp only); omega)) (sbk ?_))
         refine D.qY 16 rfl (Qt.index1 (i := j - 1) uT cT rfl rfl ow (Has.blk hz0) (by simp only [zaa, Array.size_setIfInBounds]; omega)) ?_
         refine D.oN 17 rfl (OpV.storeE0 rfl cw cT rfl rfl (by simp only [zaa, Array.size_setIfInBounds]; omega) (zaE (by (try simp only [Array.size_setIfInBounds]); omega)) (sbk ?_))
         refine D.fi (gw ?_)
         refine S.r (Qt.sub (b := 1) rfl rfl ow km) (gw ?_)
         refine ⟨(j - 1, Go.Sort.swp f j (j - 1)), ?_, ?_, ⟨?_, ag⟩, sr⟩
         ·exact ⟨by dsimp only; omega, (Go.Sort.swp_size _ _ _).trans hf, (zsx h65 h77).symm.trans hqf⟩
         ·show _ < _; dsimp only; omega
         exact outs
        ·refine D.c0 9 rfl J224 (fun w hw => zcs h77 w) (gw ?_)
         refine D.fi (gw ?_)
         refine TC.exit ?_
         refine ⟨f, ?_, ⟨?_, (fun _ h => nomatch h)⟩, sr⟩
         ·exact ⟨hf, by rw [Go.Sort.fixDown, if_pos h61, ← hqf, zqX h77]⟩
         exact outs
       ·refine TC.exit ?_
        refine ⟨f, ?_, ⟨?_, (fun _ h => nomatch h)⟩, sr⟩
        ·exact ⟨hf, by rw [Go.Sort.fixDown, if_pos h61, ← hqf, zqW h65]⟩
        exact outs
      ·refine ⟨Go.Sort.swp e k (k - 1), ?_, ⟨?_, (fun _ h => nomatch h)⟩, sr⟩
       ·exact ⟨(Go.Sort.swp_size _ _ _).trans he, (if_neg h61).symm⟩
       exact outs
     ·rintro f2 u ⟨hf2, ef2⟩
      refine gw ?_
      refine S.r (Qt.sub rfl rfl ow km) ?_
      refine S.dec rfl rfl (Qt.ge (b := 2) rfl rfl) (fun h98 => gw ?_) (fun h98 => gw ?_)
      ·refine TC.loop (γ := Nat × Array Nat) [101, 102, 103, 106, 107, 108, 109, 110, 111, 112, 113, 114, 115, 116, 117, 118, 119, 120, 121, 122, 123, 124, 125, 126, 127, 128, 129, 130, 131, 132, 104, 105, 10] (fun q => [(10, .int .i64 ((q.1 : Nat) : Int))]) (fun q => [Blk g 40 (blkD q.2 r)]) (fun q => 1 ≤ q.1 ∧ q.1 ≤ b + 1 ∧ q.2.size = n ∧ Go.Sort.shiftUp ltN b q.1 q.2 = Go.Sort.shiftUp ltN b (k + 1) f2) (fun q => b + 1 - q.1) ((k + 1, f2))
        ⟨by dsimp only; omega, by dsimp only; omega, hf2, rfl⟩ ⟨Out.refl _ _, ag⟩ sr ?_
       rintro ⟨m, y⟩ u ⟨hm1, hmb, hy, hqy⟩
       dsimp only at hm1 hmb hy hqy
       show TC _ _ _ (puts [(10, .int .i64 ((m : Nat) : Int))] (scr _ u _)) [Blk g 40 (blkD (y) r)]
       refine gw ?_
       refine S.dec rfl rfl (Qt.lt rfl rfl) (fun h103 => gw ?_) (fun h103 => gw ?_)
       ·refine dw ([], []) (gw ?_)
        refine D.qY 2 rfl (Qt.index uT cT rfl rfl ow (Has.blk hz0) (by simp only [zaa]; omega)) ?_
        refine D.qY 3 rfl (Qt.load rfl (Ld.sl (Has.blk hz0) oT (zak (by (try dsimp only); omega)))) (gw ?_)
        refine D.qY 6 rfl (Qt.sub (b := 1) rfl rfl ow km) ?_
        refine D.qY 7 rfl (Qt.index uT cT rfl rfl ow (Has.blk hz0) (by simp only [zaa]; omega)) ?_
        refine D.qY 8 rfl (Qt.load rfl (Ld.sl (Has.blk hz0) oT (zak (by (try dsimp only); omega)))) ?_
        by_cases h115 : ltN y[m]! y[m - 1]! = true
        ·refine D.c0 9 rfl J224 (fun w hw => zcr h115 w) (gw ?_)
         refine D.fi (gw ?_)
         refine dw ([15, 17], []) (gw ?_)
         refine D.p 4 rfl (Qt.sub (b := 1) rfl rfl ow km) (gw ?_)
         refine D.qY 7 rfl (Qt.sub (b := 1) rfl rfl ow km) ?_
         refine D.qY 8 rfl (Qt.index uT cT rfl rfl ow (Has.blk hz0) (by simp only [zaa]; omega)) ?_
         refine D.qY 9 rfl (Qt.load rfl (Ld.sl (Has.blk hz0) oT (zak (by (try dsimp only); omega)))) (gw ?_)
         refine D.qY 12 rfl (Qt.index uT cT rfl rfl ow (Has.blk hz0) (by simp only [zaa]; omega)) ?_
         refine D.qY 13 rfl (Qt.load rfl (Ld.sl (Has.blk hz0) oT (zak (by (try dsimp only); omega)))) ?_
         refine D.qY 14 rfl (Qt.index1 uT cT rfl rfl ow (Has.blk hz0) (by simp only [zaa]; omega)) ?_
         refine D.oN 15 rfl (OpV.storeE0 rfl cw cT rfl rfl (by simp only [zaa, Array.size_setIfInBounds]; omega) (zaE (by (try dsimp only); omega)) (sbk ?_))
         refine D.qY 16 rfl (Qt.index1 (i := m - 1) uT cT rfl rfl ow (Has.blk hz0) (by simp only [zaa, Array.size_setIfInBounds]; omega)) ?_
         refine D.oN 17 rfl (OpV.storeE0 rfl cw cT rfl rfl (by simp only [zaa, Array.size_setIfInBounds]; omega) (zaE (by (try simp only [Array.size_setIfInBounds]); omega)) (sbk ?_))
         refine D.fi (gw ?_)
         refine ⟨(m + 1, Go.Sort.swp y m (m - 1)), ?_, ?_, ⟨?_, ag⟩, sr⟩
         ·exact ⟨by dsimp only; omega, by dsimp only; omega, (Go.Sort.swp_size _ _ _).trans hy, (zsy h103 h115).symm.trans hqy⟩
         ·show _ < _; dsimp only; omega
         exact outs
        ·refine D.c0 9 rfl J224 (fun w hw => zcs h115 w) (gw ?_)
         refine D.fi (gw ?_)
         refine TC.exit (TC.region (gw ?_))
         refine ⟨(t + 1, k, y), ?_, ?_, ⟨?_, ag⟩, sr⟩
         ·exact ⟨by dsimp only; omega, by dsimp only; omega, by dsimp only; omega, hy, (by dsimp only; rw [← hq, zkU ow hk h37 h41 ef2 (by rw [Go.Sort.fixUp, if_pos h98, ← hqy, zqZ h103 h115]), show 5 - (t + 1) = 5 - t - 1 by omega])⟩
         ·show _ < _; dsimp only; omega
         exact outs
       ·refine TC.exit (TC.region (gw ?_))
        refine ⟨(t + 1, k, y), ?_, ?_, ⟨?_, ag⟩, sr⟩
        ·exact ⟨by dsimp only; omega, by dsimp only; omega, by dsimp only; omega, hy, (by dsimp only; rw [← hq, zkU ow hk h37 h41 ef2 (by rw [Go.Sort.fixUp, if_pos h98, ← hqy, zqY h103]), show 5 - (t + 1) = 5 - t - 1 by omega])⟩
        ·show _ < _; dsimp only; omega
        exact outs
      ·refine ⟨(t + 1, k, f2), ?_, ?_, ⟨?_, ag⟩, sr⟩
       ·exact ⟨by dsimp only; omega, by dsimp only; omega, by dsimp only; omega, hf2, (by dsimp only; rw [← hq, zkU ow hk h37 h41 ef2 (if_neg h98).symm, show 5 - (t + 1) = 5 - t - 1 by omega])⟩
       ·show _ < _; dsimp only; omega
       exact outs
 ·refine gw ?_
  refine TC.exit (TC.seq (gw ?_))
  refine TC.ret (finQ.ret rv sr ?_)
  rw [← hq, show 5 - t = 0 by omega]
  exact ⟨rfl, rfl⟩
theorem zpR (x : Nat) (hx : x < 4294967296) (w0 : World) : Calls prog 217 #[.int .u64 ((x : Nat) : Int)] w0 (Ret w0 (.int .i64 ((za0 x : Nat) : Int))) := by
 refine Calls.ret ?_
 refine co 8 [.tmp 2] func217 ?_
 refine gw ?_
 refine S.c0 J103 (fun w hw => zoh x hx w) (gw ?_)
 refine TC.ret (fR ?_)
 exact ⟨rfl, rfl⟩
theorem ztA (x : Nat) (hx : x < 4294967296) (w0 : World) : Calls prog 229 #[.int .i64 ((x : Nat) : Int)] w0 (Ret w0 (.int .u64 ((1 <<< Go.Sort.bitsLen x : Nat) : Int))) := by
 refine Calls.ret ?_
 refine co 7 [.tmp 2] func229 ?_
 have hb := bl32 hx
 have hp : 2 ^ za0 x ≤ 2 ^ 32 := Nat.pow_le_pow_right (by decide) hb
 refine gw ?_
 refine S.r (Qt.convert uT uT rfl km) ?_
 refine S.c0 J217 (fun w hw => zpR x hx w) ?_
 refine S.r (Qt.shlN (a := 1) rfl rfl km) (gw ?_)
 refine TC.ret (fR ?_)
 exact ⟨vu64 (by rw [Nat.shiftLeft_eq]; rfl), rfl⟩
theorem zpT (x : Nat) (r : UInt64) (w0 : World) (hL : Sat w0 [Blk x 353 [.int .u64 (((r : UInt64).toNat : Nat) : Int)]]) :
  Calls prog 230 #[.pointer (some ⟨x, 0, none⟩)] w0 (Post w0 (fps [Blk x 353 [.int .u64 (((r : UInt64).toNat : Nat) : Int)]]) fun v L => v = .int .u64 (((Go.Sort.xorNext r).toNat : Nat) : Int) ∧ L = [Blk x 353 [.int .u64 (((Go.Sort.xorNext r : UInt64).toNat : Nat) : Int)]]) := by
 refine cof (L := [Blk x 353 [.int .u64 (((r : UInt64).toNat : Nat) : Int)]]) 33 [.tmp 2] func230 hL ?_
 refine gw ?_
 refine dw ([9], []) (gw ?_)
 refine D.qY 6 rfl (Qt.as (Qt.shlm (s := 13) rfl rfl rfl (by decide)) (vu64 (x13 r))) ?_
 refine D.qY 7 rfl (Qt.as (Qt.xorN rfl rfl (zfD _) (zfD _)) (vu64 (UInt64.toNat_xor _ _).symm)) (gw ?_)
 refine D.oN 9 rfl (OpV.storeV0 rfl cw (by exact ce353) (by rfl) (by rfl) (sbk ?_))
 refine D.fi (gw ?_)
 refine dw ([9], []) (gw ?_)
 refine D.qY 6 rfl (Qt.as (Qt.shrN (s := 7) rfl rfl (zfD _)) (vu64 (x7 (r ^^^ r <<< 13)))) ?_
 refine D.qY 7 rfl (Qt.as (Qt.xorN rfl rfl (zfD _) (zfD _)) (vu64 (UInt64.toNat_xor _ _).symm)) (gw ?_)
 refine D.oN 9 rfl (OpV.storeV0 rfl cw (by exact ce353) (by rfl) (by rfl) (sbk ?_))
 refine D.fi (gw ?_)
 refine dw ([9], []) (gw ?_)
 refine D.qY 6 rfl (Qt.as (Qt.shlm (s := 17) rfl rfl rfl (by decide)) (vu64 (x17 ((r ^^^ r <<< 13) ^^^ (r ^^^ r <<< 13) >>> 7)))) ?_
 refine D.qY 7 rfl (Qt.as (Qt.xorN rfl rfl (zfD _) (zfD _)) (vu64 (UInt64.toNat_xor _ _).symm)) (gw ?_)
 refine D.oN 9 rfl (OpV.storeV0 rfl cw (by exact ce353) (by rfl) (by rfl) (sbk ?_))
 refine D.fi (gw ?_)
 refine TC.ret (finQ.ret rv sr ?_)
 exact ⟨rfl, rfl⟩
theorem znr (g n cp : Nat) (d : Array Nat) (r : List Value) (hn : d.size = n) (hm : n < 4294967296) (a b : Nat) (hb : b ≤ n) (hab : a ≤ b) (w0 : World) (hL : Sat w0 [Blk g 40 (blkD (d) r)]) :
    Calls prog 220 #[.slice (some ⟨g, 0, none⟩) n cp, .int .i64 ((a : Nat) : Int), .int .i64 ((b : Nat) : Int)] w0 (Post w0 (fps [Blk g 40 (blkD (d) r)]) fun v L => v = .tuple #[] ∧ L = [Blk g 40 (blkD (Go.Sort.breakPatterns d a b) r)]) := by
  refine Calls.of (L := [Blk g 40 (blkD (d) r)]) (n := 65) (rs := []) func220 rfl rfl rfl (Nat.le_of_ble_eq_true rfl) (hL) ?_
  refine TC.seq ?_
  refine TC.region ?_
  refine S.mv ?_
  refine S.mv ?_
  refine S.r (Qt.sub rfl rfl ow km) ?_
  refine S.as ?_
  refine S.nil ?_
  refine TC.seq ?_
  refine TC.region ?_
  refine S.mv ?_
  refine S.dec rfl rfl (Qt.ge (b := 8) rfl rfl) (fun h15 => ?_) (fun h15 => ?_)
  · refine S.nil ?_
    refine S.if_t rfl ?_
    refine TC.seq ?_
    refine TC.region ?_
    refine S.mv ?_
    refine S.r (Qt.convert uT uT rfl km) ?_
    refine S.o (OpV.alloc zT (fun b7 => ?_))
    refine S.opN rfl (OpV.storeV0 rfl cw (by exact ce353) (by rfl) (by rfl) ?_)
    refine S.nil ?_
    refine TC.seq ?_
    refine TC.region ?_
    refine S.mv ?_
    refine S.o (OpV.con0 J229 rfl (fun w hw => ztA (b - a) ow w) ?_)
    refine S.as ?_
    refine S.nil ?_
    refine TC.seq ?_
    refine TC.region ?_
    refine S.mv ?_
    refine S.mv ?_
    refine S.r (Qt.quo (b := 4) rfl rfl ow km) ?_
    refine S.r (Qt.mul (b := 2) rfl rfl km) ?_
    refine S.r (Qt.add rfl rfl km) ?_
    refine S.r (Qt.sub (b := 1) rfl rfl ow km) ?_
    refine S.as ?_
    refine S.nil ?_
    refine TC.block ?_
    refine TC.loop (γ := Nat × UInt64 × Array Nat) [26, 27, 28, 29, 30, 31, 32, 33, 36, 37, 38, 39, 40, 10, 41, 42, 43, 44, 45, 46, 47, 48, 49, 50, 51, 52, 53, 54, 55, 56, 57, 58, 59, 60, 61, 62, 63, 64, 34, 35, 9] (fun q => [(9, .int .i64 (((a + (b - a) / 4 * 2 - 1) + q.1 : Nat) : Int))]) (fun q => [Blk b7 353 [.int .u64 ((q.2.1.toNat : Nat) : Int)], Blk g 40 (blkD q.2.2 r)]) (fun q => q.1 ≤ 3 ∧ q.2.2.size = n ∧ (q.2.1, q.2.2) = brk a (b - a) (1 <<< Go.Sort.bitsLen (b - a)) d (a + (b - a) / 4 * 2 - 1) q.1) (fun q => 3 - q.1) ((0, UInt64.ofNat (b - a), d))
      ⟨by dsimp only; omega, hn, rfl⟩ ⟨Out.refl _ _, (List.forall_mem_cons.2 ⟨rfl, (fun _ h => nomatch h)⟩)⟩ ((by dsimp only; rw [zsA ow]; exact sr)) ?_
    rintro ⟨c, s, e⟩ u ⟨hc, he, hq⟩
    dsimp only at hc he hq
    show TC _ _ _ (puts [(9, .int .i64 (((a + (b - a) / 4 * 2 - 1) + c : Nat) : Int))] (scr _ u _)) [Blk b7 353 [.int .u64 ((s.toNat : Nat) : Int)], Blk g 40 (blkD (e) r)]
    refine TC.seq ?_
    refine TC.seq ?_
    refine TC.region ?_
    have hmd := zoP (x := b - a) ow
    refine S.mv ?_
    refine S.mv ?_
    refine S.mv ?_
    refine S.r (Qt.quo (b := 4) rfl rfl ow km) ?_
    refine S.r (Qt.mul (b := 2) rfl rfl km) ?_
    refine S.r (Qt.add rfl rfl km) ?_
    refine S.r (Qt.add (b := 1) rfl rfl km) ?_
    refine S.dec rfl rfl (Qt.le rfl rfl) (fun h33 => ?_) (fun h33 => ?_)
    · refine S.nil ?_
      refine S.if_t rfl ?_
      refine TC.skip ?_
      refine TC.seq ?_
      refine TC.block ?_
      refine TC.seq ?_
      refine TC.region ?_
      refine S.o (OpV.con (Pre := [Blk b7 353 [.int .u64 ((s.toNat : Nat) : Int)]]) (R := _) J230 rfl pr (fun w hw => zpT b7 s w hw.sat.left) ?_)
      rintro v L' ⟨rfl, rfl⟩
      refine S.mv ?_
      refine S.r (Qt.sub (b := 1) rfl rfl ow km) ?_
      refine S.r (Qt.andN rfl rfl (zfD _) km) ?_
      have hand : (Go.Sort.xorNext s).toNat &&& ((1 <<< Go.Sort.bitsLen (b - a)) - 1) ≤ (1 <<< Go.Sort.bitsLen (b - a)) - 1 := Nat.and_le_right
      refine S.r (Qt.convert uT uT rfl km) ?_
      refine S.as ?_
      refine S.nil ?_
      refine TC.seq ?_
      refine TC.seq ?_
      refine TC.region ?_
      refine S.mv ?_
      refine S.mv ?_
      refine S.dec rfl rfl (Qt.ge rfl rfl) (fun h43 => ?_) (fun h43 => ?_)
      · refine S.nil ?_
        refine S.if_t rfl ?_
        refine TC.region ?_
        refine S.mv ?_
        refine S.mv ?_
        refine S.r (Qt.sub rfl rfl ow km) ?_
        refine S.as ?_
        refine S.nil ?_
        refine S.draw ([17, 19], []) mixed (sk (sd sn0)) ?_
        refine D.qY 0 rfl (Qt.move cw) ?_
        refine D.qY 1 rfl (Qt.move cw) ?_
        refine D.p 2 rfl (Qt.move cw) ?_
        refine D.p 3 rfl (Qt.move cw) ?_
        refine D.p 4 rfl (Qt.move cw) ?_
        refine D.p 5 rfl (Qt.add rfl rfl km) ?_
        refine D.qY 6 rfl (Qt.move cw) ?_
        refine D.qY 7 rfl (Qt.move cw) ?_
        refine D.qY 8 rfl (Qt.move cw) ?_
        refine D.qY 9 rfl (Qt.add rfl rfl km) ?_
        refine D.qY 10 rfl (Qt.index uT cT rfl rfl ow (Has.blk hz1) (by simp only [zaa]; omega)) ?_
        refine D.qY 11 rfl (Qt.load rfl (Ld.sl (Has.blk hz1) oT (zak (by (try dsimp only); omega)))) ?_
        refine D.qY 12 rfl (Qt.move cw) ?_
        refine D.qY 13 rfl (Qt.move cw) ?_
        refine D.qY 14 rfl (Qt.index uT cT rfl rfl ow (Has.blk hz1) (by simp only [zaa]; omega)) ?_
        refine D.qY 15 rfl (Qt.load rfl (Ld.sl (Has.blk hz1) oT (zak (by (try dsimp only); omega)))) ?_
        refine D.qY 16 rfl (Qt.index1 uT cT rfl rfl ow (Has.blk hz1) (by simp only [zaa]; omega)) ?_
        refine D.opN (k := 17) (sk (sd sn0)) rfl (by kernel_rfl) (by kernel_rfl) rfl (OpV.storeE1 rfl cw cT rfl rfl (by simp only [zaa, Array.size_setIfInBounds]; omega) (zaE (by (try dsimp only); omega)) ⟨sk (sd sn0), ?_⟩)
        refine D.qY 18 rfl (Qt.index1 (i := a + (((Go.Sort.xorNext s).toNat &&& ((1 <<< Go.Sort.bitsLen (b - a)) - 1)) - (b - a))) uT cT rfl rfl ow (Has.blk hz1) (by simp only [zaa, Array.size_setIfInBounds]; omega)) ?_
        refine D.opN (k := 19) (sk (sd sn0)) rfl (by kernel_rfl) (by kernel_rfl) rfl (OpV.storeE1 rfl cw cT rfl rfl (by simp only [zaa, Array.size_setIfInBounds]; omega) (zaE (by (try simp only [Array.size_setIfInBounds]); omega)) ⟨sk (sd sn0), ?_⟩)
        refine D.done (sk (sd sn0)) (by kernel_rfl) ?_
        refine TC.region ?_
        refine S.mv ?_
        refine S.r (Qt.add (b := 1) rfl rfl km) ?_
        refine S.as ?_
        refine S.nil ?_
        refine ⟨(c + 1, Go.Sort.xorNext s, Go.Sort.swp e ((a + (b - a) / 4 * 2 - 1) + c) (a + (((Go.Sort.xorNext s).toNat &&& ((1 <<< Go.Sort.bitsLen (b - a)) - 1)) - (b - a)))), ?_, ?_, ⟨?_, (List.forall_mem_cons.2 ⟨rfl, (fun _ h => nomatch h)⟩)⟩, sr⟩
        · exact ⟨by dsimp only; omega, (Go.Sort.swp_size _ _ _).trans he, (by dsimp only; rw [brk, ← hq, ztP h43])⟩
        · show _ < _; dsimp only; omega
        repeat (first | exact Out.refl _ _ | refine Out.put rfl ?_ | refine Out.puts rfl ?_ | refine Out.scr ?_ | refine Out.scr' rfl ?_)
      · refine S.nil ?_
        refine S.if_f rfl ?_
        refine TC.skip ?_
        refine S.draw ([17, 19], []) mixed (sk (sd sn0)) ?_
        refine D.qY 0 rfl (Qt.move cw) ?_
        refine D.qY 1 rfl (Qt.move cw) ?_
        refine D.p 2 rfl (Qt.move cw) ?_
        refine D.p 3 rfl (Qt.move cw) ?_
        refine D.p 4 rfl (Qt.move cw) ?_
        refine D.p 5 rfl (Qt.add rfl rfl km) ?_
        refine D.qY 6 rfl (Qt.move cw) ?_
        refine D.qY 7 rfl (Qt.move cw) ?_
        refine D.qY 8 rfl (Qt.move cw) ?_
        refine D.qY 9 rfl (Qt.add rfl rfl km) ?_
        refine D.qY 10 rfl (Qt.index uT cT rfl rfl ow (Has.blk hz1) (by simp only [zaa]; omega)) ?_
        refine D.qY 11 rfl (Qt.load rfl (Ld.sl (Has.blk hz1) oT (zak (by (try dsimp only); omega)))) ?_
        refine D.qY 12 rfl (Qt.move cw) ?_
        refine D.qY 13 rfl (Qt.move cw) ?_
        refine D.qY 14 rfl (Qt.index uT cT rfl rfl ow (Has.blk hz1) (by simp only [zaa]; omega)) ?_
        refine D.qY 15 rfl (Qt.load rfl (Ld.sl (Has.blk hz1) oT (zak (by (try dsimp only); omega)))) ?_
        refine D.qY 16 rfl (Qt.index1 uT cT rfl rfl ow (Has.blk hz1) (by simp only [zaa]; omega)) ?_
        refine D.opN (k := 17) (sk (sd sn0)) rfl (by kernel_rfl) (by kernel_rfl) rfl (OpV.storeE1 rfl cw cT rfl rfl (by simp only [zaa, Array.size_setIfInBounds]; omega) (zaE (by (try dsimp only); omega)) ⟨sk (sd sn0), ?_⟩)
        refine D.qY 18 rfl (Qt.index1 (i := a + ((Go.Sort.xorNext s).toNat &&& ((1 <<< Go.Sort.bitsLen (b - a)) - 1))) uT cT rfl rfl ow (Has.blk hz1) (by simp only [zaa, Array.size_setIfInBounds]; omega)) ?_
        refine D.opN (k := 19) (sk (sd sn0)) rfl (by kernel_rfl) (by kernel_rfl) rfl (OpV.storeE1 rfl cw cT rfl rfl (by simp only [zaa, Array.size_setIfInBounds]; omega) (zaE (by (try simp only [Array.size_setIfInBounds]); omega)) ⟨sk (sd sn0), ?_⟩)
        refine D.done (sk (sd sn0)) (by kernel_rfl) ?_
        refine TC.region ?_
        refine S.mv ?_
        refine S.r (Qt.add (b := 1) rfl rfl km) ?_
        refine S.as ?_
        refine S.nil ?_
        refine ⟨(c + 1, Go.Sort.xorNext s, Go.Sort.swp e ((a + (b - a) / 4 * 2 - 1) + c) (a + ((Go.Sort.xorNext s).toNat &&& ((1 <<< Go.Sort.bitsLen (b - a)) - 1)))), ?_, ?_, ⟨?_, (List.forall_mem_cons.2 ⟨rfl, (fun _ h => nomatch h)⟩)⟩, sr⟩
        · exact ⟨by dsimp only; omega, (Go.Sort.swp_size _ _ _).trans he, (by dsimp only; rw [brk, ← hq, ztQ h43])⟩
        · show _ < _; dsimp only; omega
        repeat (first | exact Out.refl _ _ | refine Out.put rfl ?_ | refine Out.puts rfl ?_ | refine Out.scr ?_ | refine Out.scr' rfl ?_)
    · refine S.nil ?_
      refine S.if_f rfl ?_
      refine TC.exit ?_
      refine finQ.normal RVs.nil (Sub.trans (sk (sd sn0)) (Sub.trans (sk sr) (Sub.of_perm pm1))) ?_
      obtain rfl : c = 3 := by omega
      rw [ztN h15, ← hq]
      exact ⟨rfl, rfl⟩
  · refine S.nil ?_
    refine S.if_f rfl ?_
    refine TC.skip ?_
    refine finQ.normal RVs.nil sr ?_
    rw [ztO h15]
    exact ⟨rfl, rfl⟩
theorem zrw (g n cp : Nat) (e : Array Nat) (r : List Value) (x y l : Nat) (wb wp : Bool) (hn : (Go.Sort.rd ltN e x y l wb wp).d1.size = n) (hm : n < 4294967296) (hab : x < y) (hb : y ≤ n) (w0 : World) (hL : Sat w0 [Blk g 40 (blkD ((Go.Sort.rd ltN e x y l wb wp).d1) r)]) :
  Calls prog 221 #[.slice (some ⟨g, 0, none⟩) n cp, .int .i64 ((x : Nat) : Int), .int .i64 ((y : Nat) : Int)] w0 (Post w0 (fps [Blk g 40 (blkD ((Go.Sort.rd ltN e x y l wb wp).d1) r)]) fun v L => v = .tuple #[.int .i64 (((Go.Sort.rd ltN e x y l wb wp).c.1 : Nat) : Int), .int .i64 (Go.Sort.hintCode (Go.Sort.rd ltN e x y l wb wp).c.2)] ∧ L = [Blk g 40 (blkD ((Go.Sort.rd ltN e x y l wb wp).d1) r)]) := znq g n cp (Go.Sort.rd ltN e x y l wb wp).d1 r hn hm x y hab hb w0 hL
theorem zrx (g n cp : Nat) (r : List Value) (hm : n < 4294967296) (N : Nat) (ih : ∀ (a b lim : Nat) (d : Array Nat) (hn : d.size = n) (hab : a ≤ b) (hb : b ≤ n) (hl : lim ≤ 64) (hB : Go.Sort.Below ltN a b d) (w0 : World) (hL : Sat w0 [Blk g 40 (blkD (d) r)]), b - a < N → Calls prog 216 #[.slice (some ⟨g, 0, none⟩) n cp, .int .i64 ((a : Nat) : Int), .int .i64 ((b : Nat) : Int), .int .i64 ((lim : Nat) : Int)] w0 (Post w0 (fps [Blk g 40 (blkD (d) r)]) fun v L => v = .tuple #[] ∧ L = [Blk g 40 (blkD (Go.Sort.pdq ltN d a b lim true true) r)])) (a b lim : Nat) (d : Array Nat) (hn : d.size = n) (hab : a ≤ b) (hb : b ≤ n) (hl0 : lim ≤ 64) (hB0 : Go.Sort.Below ltN a b d) (hN : b - a ≤ N) (w0 : World) (hL : Sat w0 [Blk g 40 (blkD (d) r)]) :
  Calls prog 216 #[.slice (some ⟨g, 0, none⟩) n cp, .int .i64 ((a : Nat) : Int), .int .i64 ((b : Nat) : Int), .int .i64 ((lim : Nat) : Int)] w0 (Post w0 (fps [Blk g 40 (blkD (d) r)]) fun v L => v = .tuple #[] ∧ L = [Blk g 40 (blkD (Go.Sort.pdq ltN d a b lim true true) r)]) := by
 refine cof (L := [Blk g 40 (blkD (d) r)]) 134 [] func216 hL ?_
 refine gw ?_
 refine TC.loop (γ := Nat × Nat × Nat × Bool × Bool × Array Nat) [19, 20, 21, 10, 22, 23, 24, 25, 26, 27, 28, 29, 30, 31, 32, 33, 34, 35, 36, 37, 38, 39, 40, 41, 3, 43, 44, 45, 46, 42, 47, 48, 11, 12, 49, 50, 51, 52, 53, 54, 55, 56, 57, 58, 59, 60, 61, 62, 63, 64, 65, 66, 67, 68, 69, 70, 71, 72, 73, 74, 75, 76, 77, 78, 79, 80, 81, 82, 83, 84, 85, 86, 87, 88, 89, 90, 91, 92, 13, 93, 1, 95, 96, 97, 98, 99, 94, 100, 101, 14, 15, 102, 9, 103, 104, 105, 106, 107, 108, 16, 17, 109, 110, 18, 111, 112, 113, 114, 115, 116, 8, 117, 118, 119, 120, 121, 122, 123, 124, 125, 126, 127, 128, 129, 130, 131, 132, 133, 2] (fun q => [(1, .int .i64 ((q.1 : Nat) : Int)), (2, .int .i64 ((q.2.1 : Nat) : Int)), (3, .int .i64 ((q.2.2.1 : Nat) : Int)), (8, .bool q.2.2.2.1), (9, .bool q.2.2.2.2.1)]) (fun q => [Blk g 40 (blkD q.2.2.2.2.2 r)]) (fun q => q.1 ≤ q.2.1 ∧ q.2.1 ≤ n ∧ q.2.1 - q.1 ≤ N ∧ q.2.2.1 ≤ 64 ∧ q.2.2.2.2.2.size = n ∧ Go.Sort.Below ltN q.1 q.2.1 q.2.2.2.2.2 ∧ Go.Sort.pdq ltN q.2.2.2.2.2 q.1 q.2.1 q.2.2.1 q.2.2.2.1 q.2.2.2.2.1 = Go.Sort.pdq ltN d a b lim true true) (fun q => q.2.1 - q.1) ((a, b, lim, true, true, d))
  ⟨hab, hb, hN, hl0, hn, hB0, rfl⟩ ⟨Out.refl _ _, ag⟩ sr ?_
 rintro ⟨x, y, l, wb, wp, e⟩ u ⟨hxy, hyn, hxN, hl, he, hB, hq⟩
 dsimp only at hxy hyn hxN hl he hB hq
 show TC _ _ _ (puts [(1, .int .i64 ((x : Nat) : Int)), (2, .int .i64 ((y : Nat) : Int)), (3, .int .i64 ((l : Nat) : Int)), (8, .bool wb), (9, .bool wp)] (scr _ u _)) [Blk g 40 (blkD (e) r)]
 refine gw ?_
 refine S.r (Qt.sub rfl rfl ow km) (gw ?_)
 refine S.dec rfl rfl (Qt.le (b := 12) rfl rfl) (fun h23 => gw ?_) (fun h23 => ?_)
 ·refine S.o (OpV.con (Pre := [Blk g 40 (blkD (e) r)]) (R := _) J218 rfl pr (fun w hw => ziP g n cp e r he hm x y hxy hyn w hw.sat.left) ?_)
  rintro v L' ⟨rfl, rfl⟩
  refine gw ?_
  refine TC.ret ?_
  refine finQ.ret RVs.nil sr ?_
  rw [← hq, Go.Sort.pdq_small h23]
  exact ⟨rfl, rfl⟩
 ·refine S.nil (S.if_f rfl (TC.skip (TC.seq (TC.seq (TC.region ?_)))))
  obtain ⟨s1, B1, hc1, s2, B2, hpv, s3, B3⟩ := Go.Sort.rd_facts (limit := l) (wb := wb) (wp := wp) zdT Go.Sort.partialInsertionSort_holds Go.Sort.reverseRange_holds (show x < y by omega) (show y ≤ e.size by omega) hB
  refine gw ?_
  refine S.dec rfl rfl (Qt.eq (b := 0) rfl rfl) (fun h29 => gw ?_) (fun h29 => ?_)
  ·refine S.o (OpV.con (Pre := [Blk g 40 (blkD (e) r)]) (R := _) J219 rfl pr (fun w hw => zpO g n cp e r he hm x y ow hyn w hw.sat.left) ?_)
   rintro v L' ⟨rfl, rfl⟩
   refine gw ?_
   refine TC.ret ?_
   refine finQ.ret RVs.nil sr ?_
   rw [← hq, Go.Sort.pdq_heap h23 h29]
   exact ⟨rfl, rfl⟩
  ·refine S.nil (S.if_f rfl (TC.skip ?_))
   refine TC.cutseq (γ := Unit) [34, 35, 36, 37, 38, 39, 40, 41, 3] (fun _q => [(3, .int .i64 (((Go.Sort.rd ltN e x y l wb wp).lim : Nat) : Int))]) (fun _q => [Blk g 40 (blkD ((Go.Sort.rd ltN e x y l wb wp).d1) r)]) (fun _q => True) ?_ ?_
   ·refine gw ?_
    refine S.r (Qt.not rfl) (gw ?_)
    refine TC.ifb rfl (fun b35 => ?_) (fun b35 => ?_)
    ·refine TC.seq (TC.region ?_)
     obtain rfl : wb = false := by simpa using b35
     refine gw ?_
     refine S.o (OpV.con (Pre := [Blk g 40 (blkD (e) r)]) (R := _) J220 rfl pr (fun w hw => znr g n cp e r he hm x y hyn hxy w hw.sat.left) ?_)
     rintro v L' ⟨rfl, rfl⟩
     refine gw ?_
     refine S.r (Qt.sub (b := 1) rfl rfl ow km) (gw ?_)
     refine ⟨(), ?_, ⟨?_, ag⟩, sr⟩
     ·trivial
     exact outs
    ·refine TC.skip ?_
     obtain rfl : wb = true := by simpa using b35
     refine ⟨(), ?_, ⟨?_, ag⟩, sr⟩
     ·trivial
     exact outs
   ·rintro _ u _
    refine gw ?_
    refine S.o (OpV.con (Pre := [Blk g 40 (blkD ((Go.Sort.rd ltN e x y l wb wp).d1) r)]) (R := _) J221 rfl pr (fun w hw => zrw g n cp e r x y l wb wp (s1.trans he) hm ow hyn w hw.sat.left) ?_)
    rintro v L' ⟨rfl, rfl⟩
    refine S.mv ?_
    refine S.r (Qt.extract rfl rfl) ?_
    refine S.r (Qt.extract rfl rfl) ?_
    refine S.as ?_
    refine S.as ?_
    refine S.nil ?_
    refine TC.cutseq (γ := Unit) [49, 50, 51, 52, 53, 54, 55, 56, 57, 58, 59, 60, 11, 12] (fun _q => [(11, .int .i64 (((Go.Sort.rd ltN e x y l wb wp).pivot : Nat) : Int)), (12, .int .i64 (Go.Sort.hintCode (Go.Sort.rd ltN e x y l wb wp).hint))]) (fun _q => [Blk g 40 (blkD ((Go.Sort.rd ltN e x y l wb wp).d2) r)]) (fun _q => True) ?_ ?_
    ·refine gw ?_
     refine S.dec rfl rfl (Qt.eqi rfl rfl) (fun h50 => ?_) (fun h50 => ?_)
     ·have hdec := zq1 h50
      refine gw ?_
      refine S.o (OpV.con (Pre := [Blk g 40 (blkD ((Go.Sort.rd ltN e x y l wb wp).d1) r)]) (R := _) J222 rfl pr (fun w hw => zrv g n cp (Go.Sort.rd ltN e x y l wb wp).d1 r (s1.trans he) hm x y ow hyn w hw.sat.left) ?_)
      rintro v L' ⟨rfl, rfl⟩
      refine gw ?_
      refine S.r (Qt.sub (b := 1) rfl rfl ow km) (gw ?_)
      refine S.r (Qt.sub rfl rfl ow km) ?_
      refine S.r (Qt.sub rfl rfl ow km) (gw ?_)
      refine ⟨(), ?_, ⟨?_, (List.forall_mem_cons.2 ⟨(by show Value.int .i64 _ = Value.int .i64 _; rw [(Go.Sort.rd_dec hdec).2.1]), (List.forall_mem_cons.2 ⟨(by show Value.int .i64 _ = Value.int .i64 _; rw [(Go.Sort.rd_dec hdec).2.2]; rfl), (fun _ h => nomatch h)⟩)⟩)⟩, (by dsimp only; rw [(Go.Sort.rd_dec hdec).1]; exact sr)⟩
      ·trivial
      exact outs
     ·have hnd := zq3 h50
      refine gw ?_
      refine ⟨(), ?_, ⟨?_, (List.forall_mem_cons.2 ⟨(by show Value.int .i64 _ = Value.int .i64 _; rw [(Go.Sort.rd_not hnd).2.1]), (List.forall_mem_cons.2 ⟨(by show Value.int .i64 _ = Value.int .i64 _; rw [(Go.Sort.rd_not hnd).2.2]), (fun _ h => nomatch h)⟩)⟩)⟩, (by dsimp only; rw [(Go.Sort.rd_not hnd).1]; exact sr)⟩
      ·trivial
      exact outs
    ·rintro _ u _
     refine TC.cutseq (γ := Unit) [61, 62, 63, 64, 65, 66, 67, 68, 69, 70, 71, 72] (fun _q => []) (fun _q => [Blk g 40 (blkD ((Go.Sort.rd ltN e x y l wb wp).pi.1) r)]) (fun _q => (Go.Sort.rd ltN e x y l wb wp).pi.2 = false) ?_ ?_
     ·refine TC.seq (TC.region ?_)
      cases wb
      ·have hno : (false && wp && decide ((Go.Sort.rd ltN e x y l false wp).hint = .increasing)) = false := rfl
       refine gw ?_
       refine ⟨(), ?_, ⟨?_, (fun _ h => nomatch h)⟩, (by dsimp only; rw [Go.Sort.rd_pi_no hno]; exact sr)⟩
       ·rw [Go.Sort.rd_pi_no hno]
       exact outs
      ·refine S.mv ?_
       refine S.mv ?_
       cases wp
       ·have hno : (true && false && decide ((Go.Sort.rd ltN e x y l true false).hint = .increasing)) = false := rfl
        refine gw ?_
        refine ⟨(), ?_, ⟨?_, (fun _ h => nomatch h)⟩, (by dsimp only; rw [Go.Sort.rd_pi_no hno]; exact sr)⟩
        ·rw [Go.Sort.rd_pi_no hno]
        exact outs
       ·refine gw ?_
        refine S.decg rfl rfl rfl (Qt.eqi rfl rfl) (fun h67 => ?_) (fun h67 => ?_)
        ·have hyes : (true && true && decide ((Go.Sort.rd ltN e x y l true true).hint = .increasing)) = true := decide_eq_true (zq2 h67)
         refine gw ?_
         refine S.o (OpV.con (Pre := [Blk g 40 (blkD ((Go.Sort.rd ltN e x y l true true).d2) r)]) (R := _) J223 rfl pr (fun w hw => zka g n cp (Go.Sort.rd ltN e x y l true true).d2 r (s2.trans he) hm x y ow hyn w hw.sat.left) ?_)
         rintro v L' ⟨rfl, rfl⟩
         refine gw ?_
         refine TC.ifb rfl (fun b72 => ?_) (fun b72 => ?_)
         ·refine TC.ret ?_
          refine finQ.ret RVs.nil sr ?_
          rw [← hq, Go.Sort.pdq_done h23 h29 (by rw [Go.Sort.rd_pi_yes hyes]; exact b72), Go.Sort.rd_pi_yes hyes]
          exact ⟨rfl, rfl⟩
         ·refine gw ?_
          refine ⟨(), ?_, ⟨?_, (fun _ h => nomatch h)⟩, (by dsimp only; rw [Go.Sort.rd_pi_yes hyes]; exact sr)⟩
          ·rw [Go.Sort.rd_pi_yes hyes]
           exact b72
          exact outs
        ·have hno : (true && true && decide ((Go.Sort.rd ltN e x y l true true).hint = .increasing)) = false := decide_eq_false (fun h => h67 (by rw [h]; rfl))
         refine gw ?_
         refine ⟨(), ?_, ⟨?_, (fun _ h => nomatch h)⟩, (by dsimp only; rw [Go.Sort.rd_pi_no hno]; exact sr)⟩
         ·rw [Go.Sort.rd_pi_no hno]
         exact outs
     ·rintro _ u hp2
      refine TC.seq ?_
      refine TC.cutseq (γ := Unit) [73, 74, 75, 76, 77, 78, 79, 80, 81, 82, 83, 84, 85, 86, 87] (fun _q => [(87, .bool (decide (x > 0) && !ltN (Go.Sort.rd ltN e x y l wb wp).pi.1[x - 1]! (Go.Sort.rd ltN e x y l wb wp).pi.1[(Go.Sort.rd ltN e x y l wb wp).pivot]!))]) (fun _q => [Blk g 40 (blkD ((Go.Sort.rd ltN e x y l wb wp).pi.1) r)]) (fun _q => True) ?_ ?_
      ·refine dw ([], []) (gw ?_)
       refine D.decX (k := 1) rfl (by kernel_rfl) (by kernel_rfl) (by kernel_rfl) rfl rfl (Qt.gt (b := 0) rfl rfl) (fun h74 => gw ?_) (fun h74 => gw ?_)
       ·refine D.gY 5 rfl rfl (Qt.sub (b := 1) rfl rfl ow km) ?_
        refine D.gY 6 rfl rfl (Qt.index uT cT rfl rfl ow (Has.blk hz0) (by simp only [zaa]; omega)) ?_
        refine D.gY 7 rfl rfl (Qt.load rfl (Ld.sl (Has.blk hz0) oT (zak (by (try dsimp only); omega)))) (gw ?_)
        refine D.gY 10 rfl rfl (Qt.index uT cT rfl rfl ow (Has.blk hz0) (by simp only [zaa]; omega)) ?_
        refine D.gY 11 rfl rfl (Qt.load rfl (Ld.sl (Has.blk hz0) oT (zak (by (try dsimp only); omega)))) ?_
        by_cases h85 : ltN (Go.Sort.rd ltN e x y l wb wp).pi.1[x - 1]! (Go.Sort.rd ltN e x y l wb wp).pi.1[(Go.Sort.rd ltN e x y l wb wp).pivot]! = true
        ·refine D.cg0 12 rfl rfl J224 (fun w hw => zcr h85 w) (gw ?_)
         refine D.fi ?_
         refine ⟨(), ?_, ⟨?_, (List.forall_mem_cons.2 ⟨(by show Value.bool _ = Value.bool _; simp [h74, h85]), (fun _ h => nomatch h)⟩)⟩, sr⟩
         ·trivial
         exact outs
        ·refine D.cg0 12 rfl rfl J224 (fun w hw => zcs h85 w) (gw ?_)
         refine D.fi ?_
         refine ⟨(), ?_, ⟨?_, (List.forall_mem_cons.2 ⟨(by show Value.bool _ = Value.bool _; simp [h74, h85]), (fun _ h => nomatch h)⟩)⟩, sr⟩
         ·trivial
         exact outs
       ·refine D.fi ?_
        refine ⟨(), ?_, ⟨?_, (List.forall_mem_cons.2 ⟨(by show Value.bool _ = Value.bool _; simp [h74]), (fun _ h => nomatch h)⟩)⟩, sr⟩
        ·trivial
        exact outs
      ·rintro _ u _
       refine TC.ifb rfl (fun b87 => ?_) (fun b87 => ?_)
       ·refine TC.seq (TC.region ?_)
        have h87 := b87
        simp only [Bool.and_eq_true, decide_eq_true_eq, Bool.not_eq_true'] at h87
        obtain ⟨mid, d4, hx⟩ : ∃ mid d4, Go.Sort.partitionEqual ltN (Go.Sort.rd ltN e x y l wb wp).pi.1 x y (Go.Sort.rd ltN e x y l wb wp).pivot = (mid, d4) := ⟨_, _, rfl⟩
        obtain ⟨r1, r2, r3, r4, _⟩ := Go.Sort.round_eq zdT (Go.Sort.partitionEqual_holds ltN) h87.1 hpv.1 hpv.2 (show y ≤ (Go.Sort.rd ltN e x y l wb wp).pi.1.size by omega) B3 h87.2 hx
        refine gw ?_
        refine S.o (OpV.con (Pre := [Blk g 40 (blkD ((Go.Sort.rd ltN e x y l wb wp).pi.1) r)]) (R := _) J225 rfl pr (fun w hw => (by have h := zll g n cp (Go.Sort.rd ltN e x y l wb wp).pi.1 r (s3.trans he) hm x y (Go.Sort.rd ltN e x y l wb wp).pivot hpv.1 hpv.2 hyn w hw.sat.left; rw [hx] at h; exact h)) ?_)
        rintro v L' ⟨rfl, rfl⟩
        refine gw ?_
        refine TC.exit ?_
        refine ⟨(mid, y, (Go.Sort.rd ltN e x y l wb wp).lim, wb, wp, d4), ?_, ?_, ⟨?_, ag⟩, sr⟩
        ·exact ⟨r2, hyn, by dsimp only; omega, Nat.le_trans (Go.Sort.rd_lim_le (lt := ltN) (d := e) (a := x) (b := y) (limit := l) (wb := wb) (wp := wp)) hl, r3.trans (s3.trans he), r4, (by dsimp only; rw [← hq, Go.Sort.pdq_eq h23 h29 hp2 b87 (by rw [hx]; exact ⟨r1, r2⟩), hx])⟩
        ·show _ < _; dsimp only; omega
        exact outs
       ·refine TC.skip (TC.seq (TC.region ?_))
        obtain ⟨mid, ap, d4, hx⟩ : ∃ mid ap d4, Go.Sort.partition ltN (Go.Sort.rd ltN e x y l wb wp).pi.1 x y (Go.Sort.rd ltN e x y l wb wp).pivot = (mid, ap, d4) := ⟨_, _, _, rfl⟩
        obtain ⟨r1, r2, r3, r4, r5, r6, r7⟩ := Go.Sort.round_part zdT (Go.Sort.partition_holds ltN) hpv.1 hpv.2 (show y ≤ (Go.Sort.rd ltN e x y l wb wp).pi.1.size by omega) B3 hx
        refine gw ?_
        refine S.o (OpV.con (Pre := [Blk g 40 (blkD ((Go.Sort.rd ltN e x y l wb wp).pi.1) r)]) (R := _) J226 rfl pr (fun w hw => (by have h := zpP g n cp (Go.Sort.rd ltN e x y l wb wp).pi.1 r (s3.trans he) hm x y (Go.Sort.rd ltN e x y l wb wp).pivot hpv.1 hpv.2 hyn w hw.sat.left; rw [hx] at h; exact h)) ?_)
        rintro v L' ⟨rfl, rfl⟩
        refine gw ?_
        refine S.r (Qt.sub rfl rfl ow km) (gw ?_)
        refine S.r (Qt.sub rfl rfl ow km) (gw ?_)
        refine S.r (Qt.quo (b := 8) rfl rfl ow km) (gw ?_)
        refine S.dec rfl rfl (Qt.lt rfl rfl) (fun h113 => ?_) (fun h113 => ?_)
        ·refine S.nil (S.if_t rfl (TC.seq (TC.region ?_)))
         obtain ⟨pL, sL⟩ := Go.Sort.pdq_sorts ltN zdT d4 x mid (Go.Sort.rd ltN e x y l wb wp).lim true true ow ow r4
         refine gw ?_
         refine S.r (Qt.ge rfl rfl) (gw ?_)
         refine S.o (OpV.con (Pre := [Blk g 40 (blkD (d4) r)]) (R := _) J216 rfl pr (fun w hw => ih x mid (Go.Sort.rd ltN e x y l wb wp).lim d4 (r3.trans (s3.trans he)) ow ow (Nat.le_trans (Go.Sort.rd_lim_le (lt := ltN) (d := e) (a := x) (b := y) (limit := l) (wb := wb) (wp := wp)) hl) r4 w hw.sat.left ow) ?_)
         rintro v L' ⟨rfl, rfl⟩
         refine gw ?_
         refine ⟨(mid + 1, y, (Go.Sort.rd ltN e x y l wb wp).lim, decide (mid - x ≥ (y - x) / 8), ap, Go.Sort.pdq ltN d4 x mid (Go.Sort.rd ltN e x y l wb wp).lim true true), ?_, ?_, ⟨?_, ag⟩, sr⟩
         ·exact ⟨by dsimp only; omega, hyn, by dsimp only; omega, Nat.le_trans (Go.Sort.rd_lim_le (lt := ltN) (d := e) (a := x) (b := y) (limit := l) (wb := wb) (wp := wp)) hl, pL.1.trans (r3.trans (s3.trans he)), (r6 _ pL sL).1, (by dsimp only; rw [← hq, Go.Sort.pdq_left h23 h29 hp2 b87 (by rw [hx]; exact ⟨r1, r2⟩) (by rw [hx]; exact h113), hx])⟩
         ·show _ < _; dsimp only; omega
         exact outs
        ·refine S.nil (S.if_f rfl (TC.seq (TC.region ?_)))
         obtain ⟨pL, sL⟩ := Go.Sort.pdq_sorts ltN zdT d4 (mid + 1) y (Go.Sort.rd ltN e x y l wb wp).lim true true ow ow r5
         refine gw ?_
         refine S.r (Qt.ge rfl rfl) (gw ?_)
         refine S.o (OpV.con (Pre := [Blk g 40 (blkD (d4) r)]) (R := _) J216 rfl pr (fun w hw => ih (mid + 1) y (Go.Sort.rd ltN e x y l wb wp).lim d4 (r3.trans (s3.trans he)) ow ow (Nat.le_trans (Go.Sort.rd_lim_le (lt := ltN) (d := e) (a := x) (b := y) (limit := l) (wb := wb) (wp := wp)) hl) r5 w hw.sat.left ow) ?_)
         rintro v L' ⟨rfl, rfl⟩
         refine gw ?_
         refine ⟨(x, mid, (Go.Sort.rd ltN e x y l wb wp).lim, decide (y - mid ≥ (y - x) / 8), ap, Go.Sort.pdq ltN d4 (mid + 1) y (Go.Sort.rd ltN e x y l wb wp).lim true true), ?_, ?_, ⟨?_, ag⟩, sr⟩
         ·exact ⟨r1, by dsimp only; omega, by dsimp only; omega, Nat.le_trans (Go.Sort.rd_lim_le (lt := ltN) (d := e) (a := x) (b := y) (limit := l) (wb := wb) (wp := wp)) hl, pL.1.trans (r3.trans (s3.trans he)), (r7 _ pL sL).1, (by dsimp only; rw [← hq, Go.Sort.pdq_right h23 h29 hp2 b87 (by rw [hx]; exact ⟨r1, r2⟩) (by rw [hx]; exact h113), hx])⟩
         ·show _ < _; dsimp only; omega
         exact outs
theorem zsR (g n cp : Nat) (r : List Value) (hm : n < 4294967296) : ∀ (N : Nat), ∀ (a b lim : Nat) (d : Array Nat) (hn : d.size = n) (hab : a ≤ b) (hb : b ≤ n) (hl : lim ≤ 64) (hB : Go.Sort.Below ltN a b d) (w0 : World) (hL : Sat w0 [Blk g 40 (blkD (d) r)]), b - a < N → Calls prog 216 #[.slice (some ⟨g, 0, none⟩) n cp, .int .i64 ((a : Nat) : Int), .int .i64 ((b : Nat) : Int), .int .i64 ((lim : Nat) : Int)] w0 (Post w0 (fps [Blk g 40 (blkD (d) r)]) fun v L => v = .tuple #[] ∧ L = [Blk g 40 (blkD (Go.Sort.pdq ltN d a b lim true true) r)]) := by
 intro N
 induction N with
 | zero => intro _ _ _ _ _ _ _ _ _ _ _ h; exact absurd h (Nat.not_lt_zero _)
 | succ N ih => intro a b lim d hn hab hb hl hB w0 hL h; exact zrx g n cp r hm N ih a b lim d hn hab hb hl hB ow w0 hL
theorem TL.shutN {C : Ctx} {Q : EQ} {env : Env} {ops : Array Oper} {l : List Oper} {L0 L : List Assn} {e : TypeId} {sz g n c : Nat} {cs : List Value} (hl : cs.length = c * sz) (hn : n ≤ c) (hm : c ≤ maxLen) (s : L0.Perm (Blk g e cs :: L)) (h : TL C ops Q l env (OwnA e sz (some ⟨g, 0, none⟩) n c (cs.take (n * sz)) :: L)) : TL C ops Q l env L0 :=
 fun a w ha hw => h a w ha ((hw.perm s).shutOwn hl hn hm)
theorem zpU (d : Array Nat) : (Go.Sort.sort ltN d).size = d.size := (Go.Sort.sort_sorts ltN zdT d).1.1
theorem zpV (d : Array Nat) (r : List Value) {n : Nat} (h : d.size = n) : (blkD d r).take (n * 1) = u64s d.toList := by
 rw [blkD, Nat.mul_one, List.take_left' (by rw [zbi, Array.length_toList, h])]
theorem zsS {cs : List Value} {n : Nat} {xs : List Nat} (h : cs.take (n * 1) = u64s xs) : cs = blkD xs.toArray (cs.drop (n * 1)) := by
 rw [blkD]; show cs = u64s xs ++ _; rw [← h, List.take_append_drop]
theorem zmm {n : Nat} {d : Array Nat} (h : d.size = n) : (Go.Sort.pdq ltN d 0 n (za0 n) true true).size = d.size := by subst h; exact zpU d
theorem zsT {n : Nat} {xs : List Nat} (h : xs.toArray.size = n) : (Go.Sort.pdq ltN xs.toArray 0 n (za0 n) true true).toList = srt xs := by subst h; exact ztM xs
theorem ztB (a b : Nat) (h : b ≤ a) (ha : a < 4294967296) (w0 : World) : Calls prog 218 #[.slice none 0 0, .int .i64 ((a : Nat) : Int), .int .i64 ((b : Nat) : Int)] w0 (Ret w0 (.tuple #[])) := by
 refine Calls.ret ?_
 refine co 49 [] func218 ?_
 refine gw ?_
 refine TC.loop (γ := Nat) [10, 11, 12, 15, 7, 16, 17, 18, 19, 20, 21, 22, 23, 24, 25, 26, 27, 28, 29, 30, 33, 34, 35, 36, 37, 38, 39, 40, 41, 42, 43, 44, 45, 46, 47, 48, 31, 32, 13, 14, 6] (fun k => [(6, .int .i64 ((k : Nat) : Int))]) (fun _ => _) (fun k => k = a + 1) (fun k => k) (a + 1)
  rfl ⟨Out.refl _ _, ag⟩ sr ?_
 rintro k u hk
 refine gw ?_
 refine S.r (Qt.dF (Qt.lt rfl rfl) ow) (gw ?_)
 refine TC.exit ?_
 refine finQ.normal RVs.nil sn ?_
 exact ⟨rfl, rfl⟩
theorem ztC (l : Nat) (w0 : World) : Calls prog 216 #[.slice none 0 0, .int .i64 ((0 : Nat) : Int), .int .i64 ((0 : Nat) : Int), .int .i64 ((l : Nat) : Int)] w0 (Ret w0 (.tuple #[])) := by
 refine Calls.ret ?_
 refine co 134 [] func216 ?_
 refine gw ?_
 refine TC.loop (γ := Nat) [19, 20, 21, 10, 22, 23, 24, 25, 26, 27, 28, 29, 30, 31, 32, 33, 34, 35, 36, 37, 38, 39, 40, 41, 3, 43, 44, 45, 46, 42, 47, 48, 11, 12, 49, 50, 51, 52, 53, 54, 55, 56, 57, 58, 59, 60, 61, 62, 63, 64, 65, 66, 67, 68, 69, 70, 71, 72, 73, 74, 75, 76, 77, 78, 79, 80, 81, 82, 83, 84, 85, 86, 87, 88, 89, 90, 91, 92, 13, 93, 1, 95, 96, 97, 98, 99, 94, 100, 101, 14, 15, 102, 9, 103, 104, 105, 106, 107, 108, 16, 17, 109, 110, 18, 111, 112, 113, 114, 115, 116, 8, 117, 118, 119, 120, 121, 122, 123, 124, 125, 126, 127, 128, 129, 130, 131, 132, 133, 2] (fun k => [(1, .int .i64 ((0 : Nat) : Int)), (2, .int .i64 ((0 : Nat) : Int))]) (fun _ => _) (fun k => True) (fun k => k) (0)
  trivial ⟨Out.refl _ _, ag⟩ sr ?_
 rintro k u hk
 refine gw ?_
 refine S.r (Qt.sub rfl rfl ow km) (gw ?_)
 refine S.r (Qt.dT (Qt.le (b := 12) rfl rfl) ow) (gw ?_)
 refine S.c0 J218 (fun w hw => ztB 0 0 (Nat.le_refl _) (by decide) w) (gw ?_)
 refine TC.ret ?_
 refine finQ.ret RVs.nil sn ?_
 exact ⟨rfl, rfl⟩
theorem zry (A : OAd) (n c : Nat) (xs : List Nat) (hm : n < 4294967296) (w0 : World) (hL : Sat w0 [OwnA 40 1 A n c (u64s xs)]) :
  Calls prog 215 #[.slice A n c] w0 (Post w0 (fps [OwnA 40 1 A n c (u64s xs)]) fun v L => v = .tuple #[] ∧ L = [OwnA 40 1 A n c (u64s (srt xs))]) := by
 refine cof (L := [OwnA 40 1 A n c (u64s xs)]) 11 [] func215 hL ?_
 have hxn : xs.length = n := by have := (zaL (hL.ok _ (List.mem_cons_self ..))).2.2; rw [zbi] at this; omega
 refine TC.openOwn (fun hA hz hc0 hx0 => ?_) (fun g cs hO hct hcl hnc hcm => ?_)
 ·subst hA hz hc0
  obtain rfl : xs = [] := by cases xs with | nil => rfl | cons _ _ => simp at hxn
  refine gw ?_
  refine S.r (Qt.convert uT uT rfl km) ?_
  refine S.c0 J217 (fun w hw => zpR 0 (by decide) w) ?_
  refine S.c0 J216 (fun w hw => ztC (za0 0) w) (gw ?_)
  refine finQ.normal RVs.nil sr ?_
  exact ⟨rfl, by rw [srt, List.mergeSort_nil]; rfl⟩
 subst hO
 have hcs := zsS hct
 generalize hr : cs.drop (n * 1) = r at hcs
 subst hcs
 have hsz : xs.toArray.size = n := hxn
 have hb := bl32 hm
 refine gw ?_
 refine S.r (Qt.convert uT uT rfl km) ?_
 refine S.c0 J217 (fun w hw => zpR n ow w) ?_
 refine S.o (OpV.con (Pre := [Blk g 40 (blkD (xs.toArray) r)]) (R := _) J216 rfl pr (fun w hw => (zsR g n c r hm (n + 1) 0 n (za0 n) xs.toArray hsz (Nat.zero_le _) (Nat.le_refl _) ow (.inl rfl) w hw.sat.left ow)) ?_)
 rintro v L' ⟨rfl, rfl⟩
 refine TL.shutN (n := n) (c := c) (sz := 1) (by rw [zaa, zmm hsz, ← hcl, zaa]) hnc hcm pr ?_
 rw [zpV _ _ (by rw [zmm hsz]; exact hsz), zsT hsz]
 refine gw ?_
 refine finQ.normal RVs.nil sr ?_
 exact ⟨rfl, rfl⟩
theorem zpY {a b : Nat × Nat} (h : zau a = zau b) : a = b := by
 obtain ⟨a1, a2⟩ := a
 obtain ⟨b1, b2⟩ := b
 unfold zau at h
 simp only [Value.agg.injEq, Array.mk.injEq, List.cons.injEq, Value.int.injEq, true_and, and_true] at h
 obtain ⟨h1, h2⟩ := h
 rw [show a1 = b1 by omega, show a2 = b2 by omega]
theorem ztD {ms : Tm} {done : List (Nat × Nat)} (h1 : done.Nodup) (h2 : ∀ x ∈ done, x ∈ zas ms) : (lv0 done).length ≤ (lv0 (zas ms)).length := zgK (zjF h1) fun x hx => zkV.2 (h2 _ (zkV.1 hx))
theorem ztE {ms : Tm} {done : List (Nat × Nat)} (hn : (zas ms).Nodup) (h1 : done.Nodup) (h2 : ∀ x ∈ done, x ∈ zas ms) (h3 : ∀ p ∈ ms, p.1 ∈ done) : srt (lv0 done) = lvT ms :=
 zti ((List.perm_ext_iff_of_nodup h1 hn).2 fun x => ⟨h2 x, fun hx => by obtain ⟨p, hp, rfl⟩ := List.mem_map.1 hx; exact h3 p hp⟩)
theorem zrz {w : World} {M : List Nat} {b : Nat} {ms : Tm} (h : Ro w M (MapA b zau hv (ms))) : (zas ms).Nodup := by
 obtain ⟨⟨es, clock, _, _, _, _, hn⟩, _⟩ := h
 exact hn
theorem zpZ (xs : List Nat) : (srt xs).length = xs.length := (zd9 xs).length_eq
theorem zp0 (xs : List Nat) (x : Nat) : u64s (xs ++ [x]) = u64s xs ++ [.int .u64 ((x : Nat) : Int)] := by simp [u64s]
theorem zlm (E : Nat → H32) (tb mb height : Nat) (ms : Tm) (hn : (lv0 (zas ms)).length < 4294967296) (w0 : World) (hB : Ro w0 [] (Blk tb 243 (zar E height mb))) (hM : Ro w0 [] (MapA mb zau hv (ms))) :
  Calls prog 208 #[.pointer (some ⟨tb, 0, none⟩)] w0 (Post w0 [] fun v L => ∃ O d, v = .slice O (lvT ms).length d ∧ L = [OwnA 40 1 O (lvT ms).length d (u64s (lvT ms))]) := by
 refine co 27 [.tmp 2] func208 ?_
 have hnd := zrz hM
 refine TC.ownNil 40 1 (gw ?_)
 refine S.o (OpV.rangeR uT rfl hM (fun it clock es hr => ?_))
 refine gw ?_
 refine TC.loop (γ := List (Nat × Nat) × OAd × Nat) [12, 13, 14, 15, 4, 16, 17, 18, 19, 20, 21, 22, 23, 3] (fun g => [(3, .slice g.2.1 (lv0 g.1).length g.2.2)]) (fun g => [ItR it mb clock es zau hv (ms) g.1, OwnA 40 1 g.2.1 (lv0 g.1).length g.2.2 (u64s (lv0 g.1))]) (fun g => g.1.Nodup ∧ ∀ x ∈ g.1, x ∈ zas ms) (fun g => ms.length - g.1.length) (([], none, 0))
  ⟨List.nodup_nil, (fun _ h => nomatch h)⟩ ⟨Out.refl _ _, ag⟩ sr ?_
 rintro ⟨done, O, d⟩ u ⟨hi1, hi2⟩
 dsimp only at hi1 hi2
 show TC _ _ _ (puts [(3, .slice O (lv0 done).length d)] (scr _ u _)) [ItR it mb clock es zau hv (ms) done, OwnA 40 1 O (lv0 done).length d (u64s (lv0 done))]
 have hdl : (lv0 done).length < 4294967296 := Nat.lt_of_le_of_lt (ztD hi1 hi2) hn
 refine gw ?_
 refine S.o (OpV.nextR0 (fun _ _ h => zpY h) hr rfl (fun hend => ?_) (fun x a hm hd => ?_))
 ·refine gw ?_
  refine TC.exit (TC.seq (gw ?_))
  refine S.o (OpV.con (Pre := [OwnA 40 1 O (lv0 done).length d (u64s (lv0 done))]) (R := _) J215 rfl pm1 (fun w hw => zry O (lv0 done).length d (lv0 done) hdl w hw.sat.left) ?_)
  rintro v L' ⟨rfl, rfl⟩
  refine gw ?_
  refine TC.ret (finQ.ret rv (sk (sd sn0)) ?_)
  have hall := ztE hnd hi1 hi2 hend
  have hll := zpZ (lv0 done)
  rw [hall] at hll ⊢
  rw [← hll]
  exact ⟨O, d, rfl, rfl⟩
 ·refine gw ?_
  refine S.r (Qt.entryR hr rfl hz0 hm) (gw ?_)
  intro b4
  refine S.opN rfl (OpV.storeV0 (v := zau x) rfl rfl (by exact ce249) (by rfl) (by rfl) ?_)
  refine gw ?_
  refine S.dec rfl rfl (Qt.eq (b := 0) rfl rfl) (fun h18 => gw ?_) (fun h18 => gw ?_)
  ·refine S.o (OpV.slice1 (bytes := 8) (v := .int .u64 ((x.2 : Nat) : Int)) uT elem40 (by decide) rfl rfl (fun g22 => ?_))
   refine S.o (OpV.app3 (bytes := 8) (news := [.int .u64 ((x.2 : Nat) : Int)]) uT elem40 rfl rfl (Has.blk hz0) rfl (by intro u hu; rw [List.mem_singleton.1 hu]; rfl) (by simp only [maxLen]; omega) ow (fun O' d' => ?_))
   refine gw ?_
   refine ⟨(done ++ [x], O', d'), ?_, ?_, ⟨?_, (List.forall_mem_cons.2 ⟨(by show Value.slice O' ((lv0 done).length + 1) d' = Value.slice O' (lv0 (done ++ [x])).length d'; rw [zf0, if_pos h18, zaJ]), (fun _ h => nomatch h)⟩)⟩, (by dsimp only; rw [zf0, if_pos h18, zaJ, zp0]; exact Sub.trans (sk (sk (sd (sd sn0)))) (Sub.trans (sk (Sub.trans (sk sr) (Sub.of_perm pm2))) (Sub.of_perm pm2)))⟩
   ·exact (zci hi1 hi2 hm hd).1
   ·exact (zci hi1 hi2 hm hd).2
   exact outs
  ·refine ⟨(done ++ [x], O, d), ?_, ?_, ⟨?_, (List.forall_mem_cons.2 ⟨(by show Value.slice O (lv0 done).length d = Value.slice O (lv0 (done ++ [x])).length d; rw [zf0, if_neg h18]), (fun _ h => nomatch h)⟩)⟩, (by dsimp only; rw [zf0, if_neg h18]; exact Sub.trans (sk (sk (sd sn0))) (Sub.trans (sk (Sub.trans (sk sr) (Sub.of_perm pm1))) (Sub.of_perm pm1)))⟩
   ·exact (zci hi1 hi2 hm hd).1
   ·exact (zci hi1 hi2 hm hd).2
   exact outs
theorem zns (tb : Nat) (w0 : World) :
  Calls prog 194 #[.pointer (some ⟨tb, 0, none⟩)] w0 (Post w0 [] fun v L => ∃ b, v = .func (.func 207) #[] #[.pointer (some ⟨b, 0, none⟩)] ∧ L = [Blk b 155 [.pointer (some ⟨tb, 0, none⟩)]]) := by
 refine co 4 [.tmp 2] func194 ?_
 refine gw ?_
 intro b1
 refine gw ?_
 refine S.r (Qt.makeFuncL (fs := []) (cs := [.pointer (some ⟨b1, 0, none⟩)]) rfl rfl) (gw ?_)
 refine TC.ret (finQ.ret rv sr ?_)
 exact ⟨_, rfl, rfl⟩
theorem zln (E : Nat → H32) (tb mb height : Nat) (ms : Tm) (hn : (lv0 (zas ms)).length < 4294967296) (vs : List Nat) (hvs : vs = lvT ms) (n : Nat) (hvn : vs.length = n) (b1 l : Nat) (J : Bool → List (Fin n) → List Assn → Prop) (w0 : World) (L0 : List Assn) (h0 : Sat w0 L0) (hJ : J true [] L0) (hB : Ro w0 (fps L0) (Blk tb 243 (zar E height mb))) (hM : Ro w0 (fps L0) (MapA mb zau hv (ms))) (hP : Ro w0 (fps L0) (Blk b1 155 [.pointer (some ⟨tb, 0, none⟩)]))
  (hY : ∀ pre x w' L', (fun ys : List (Fin n) => ∃ j, j ≤ n ∧ ys = (List.finRange n).take j) (pre ++ [x]) → J true pre L' → St w0 (fps L0) L' w' → YieldAt Fence.wide 0 prog l ((fun i : Fin n => [Value.int .u64 ((vs.getD i.val 0 : Nat) : Int), hv (getT E ms (0, vs.getD i.val 0))]) x).toArray w' fun e w'' => ∃ L'', St w' (fps L') L'' w'' ∧ ((e = .returned (.bool true) ∧ J true (pre ++ [x]) L'') ∨ (e = .returned (.bool false) ∧ J false (pre ++ [x]) L''))) :
  Calls prog 207 #[.func (.yield l) #[] #[], .pointer (some ⟨b1, 0, none⟩)] w0 (Post w0 (fps L0) fun v L => (∃ ys, ys = List.finRange n ∧ J true ys L) ∨ (∃ pre, True ∧ J false pre L)) := by
 refine cof (L := L0) 21 [] func207 h0 ?_
 have hnn : n < 4294967296 := by rw [← hvn, hvs, lvT, zpZ]; exact hn
 refine gw ?_
 refine S.o (OpV.con (Pre := []) (R := L0) J208 rfl pr (fun w hw => zlm E tb mb height ms hn w (Ro.of_pre (Pre := []) hw hB) (Ro.of_pre (Pre := []) hw hM)) ?_)
 rintro v L' ⟨O, d, rfl, rfl⟩
 rw [← hvs, hvn]
 show TL _ _ _ _ (Env.put _ _ (.slice O n d)) (OwnA 40 1 O n d (u64s vs) :: L0)
 refine gw ?_
 refine TC.loop (γ := Nat × List Assn) [9, 10, 11, 4, 12, 13, 14, 15, 16, 17, 18, 19, 20, 8] (fun g => [(8, .int .i64 ((g.1 : Nat) : Int))]) (fun g => OwnA 40 1 O n d (u64s vs) :: g.2) (fun g => g.1 ≤ n ∧ J true ((List.finRange n).take g.1) g.2) (fun g => n - g.1) ((0, L0))
  ⟨Nat.zero_le _, hJ⟩ ⟨Out.refl _ _, ag⟩ sr ?_
 rintro ⟨k, Z⟩ u ⟨hk, hj⟩
 dsimp only at hk hj
 show TC _ _ _ (puts [(8, .int .i64 ((k : Nat) : Int))] (scr _ u _)) (OwnA 40 1 O n d (u64s vs) :: Z)
 refine gw ?_
 refine S.dec rfl rfl (Qt.lt rfl rfl) (fun h9 => ?_) (fun h9 => ?_)
 ·have hkm : k < n := h9
  refine gw ?_
  refine S.r (Qt.index uT cT rfl rfl ow (Has.own hz0) (by rw [zbi]; omega)) ?_
  refine S.r (Qt.load rfl (Ld.sl (Has.own hz0) oT (zbO ow))) (gw ?_)
  refine S.r (Qt.build2 (a := .int .i64 0) (b := .int .u64 ((vs.getD k 0 : Nat) : Int)) (v := zau (0, vs.getD k 0)) rfl rfl (fun _ => by kernel_rfl)) ?_
  refine S.c0 J135 (fun w hw => zmJ E tb mb height ms 0 (vs.getD k 0) ow w (Rd.ro hB w hw) (Rd.ro hM w hw)) ?_
  refine S.o (OpV.yield2 (L1 := [OwnA 40 1 O n d (u64s vs)]) (enc := (fun i : Fin n => [Value.int .u64 ((vs.getD i.val 0 : Nat) : Int), hv (getT E ms (0, vs.getD i.val 0))])) ⟨k, hkm⟩ (fun w' L' => hY _ _ w' L' ⟨k + 1, hkm, (zbH hkm).symm⟩) rfl rfl hj (fun Z2 hj2 => ?_) (fun Z2 hj2 => ?_))
  ·rw [← zbH hkm] at hj2
   refine gw ?_
   refine ⟨(k + 1, Z2), ?_, ?_, ⟨?_, ag⟩, sr⟩
   ·exact ⟨by show _ ≤ _; dsimp only; omega, hj2⟩
   ·show _ < _; dsimp only; omega
   exact outs
  ·refine gw ?_
   refine TC.ret ?_
   refine finQ.ret RVs.nil (sd sr) ?_
   exact .inr ⟨_, trivial, hj2⟩
 ·refine gw ?_
  refine TC.exit ?_
  refine finQ.normal RVs.nil (sd sr) ?_
  obtain rfl : k = n := by omega
  rw [zcQ] at hj
  exact .inl ⟨_, rfl, hj⟩
theorem zsU (E : Nat → H32) (tb mb height : Nat) (ms : Tm) (hn : (lv0 (zas ms)).length < 4294967296) (vs : List Nat) (hvs : vs = lvT ms) (n : Nat) (hvn : vs.length = n) (b1 : Nat) (w : World) (L0 : List Assn) (h0 : Sat w L0) (hB : Ro w (fps L0) (Blk tb 243 (zar E height mb))) (hM : Ro w (fps L0) (MapA mb zau hv (ms))) (hP : Ro w (fps L0) (Blk b1 155 [.pointer (some ⟨tb, 0, none⟩)])) :
  Gen2 prog 207 #[.pointer (some ⟨b1, 0, none⟩)] (fun i : Fin n => [Value.int .u64 ((vs.getD i.val 0 : Nat) : Int), hv (getT E ms (0, vs.getD i.val 0))]) (fun ys => ys = List.finRange n) (fun _ => True) (fun ys : List (Fin n) => ∃ j, j ≤ n ∧ ys = (List.finRange n).take j) w L0 := fun l J hJ hY =>
 zln E tb mb height ms hn vs hvs n hvn b1 l J w L0 h0 hJ hB hM hP hY
theorem zsV {n j : Nat} {pre : List (Fin n)} {x : Fin n} (h : pre ++ [x] = (List.finRange n).take j) : x.val = pre.length ∧ pre.length < n := by
 have h1 := congrArg List.length h
 rw [zaJ, List.length_take, List.length_finRange] at h1
 have h2 : (pre ++ [x])[pre.length]? = some x := by simp
 have h3 : pre.length < n := by omega
 rw [h] at h2
 simp [show pre.length < j by omega, h3] at h2
 exact ⟨by rw [← h2], h3⟩
theorem ziQ (E : Nat → H32) (hEm : ∀ w, Tabs 3 1 w [] → Calls prog 55 #[] w (Ret w (.agg (hcs (zbd E)).toArray))) (hE : ∀ h, E (h + 1) = zbj (h + 1) (E h) (E h)) (tb mb height : Nat) (ms : Tm) (g : Nat → H32) (ht : TreeOk E height g ms) (hn : (lv0 (zas ms)).length < 4294967296) (b : Nat) (hb : okN b) (w0 : World) (hB : Ro w0 [] (Blk tb 243 (zar E height mb))) (hM : Ro w0 [] (MapA mb zau hv (ms))) (hT : Tabs 3 1 w0 []) :
    Calls prog 161 #[.pointer (some ⟨tb, 0, none⟩), .int .u64 (b : Int)] w0 (Post w0 [] fun v L => ∃ tb2 m2 ms2, v = .tuple #[.pointer (some ⟨tb2, 0, none⟩), .nilIface] ∧ L = [Blk tb2 243 (zar E (hgt b) m2), MapA m2 zau hv (ms2)] ∧ TreeOk E (hgt b) (cutF E g (lvT ms) b) ms2) := by
  refine Calls.of (L := []) (n := 46) (rs := [.cell 4 155, .cell 5 51]) func161 rfl rfl rfl (Nat.le_of_ble_eq_true rfl) (Sat.nil _) ?_
  have hh2 := zb0 hb
  have hbl := zdA hb
  refine TC.seq ?_
  refine TC.region ?_
  refine S.o (OpV.box (v := .int .u64 (b : Int)) rfl (fun b3 => ?_))
  refine S.o (OpV.alloc zT (fun b4 => ?_))
  refine S.o (OpV.alloc zT (fun b5 => ?_))
  refine S.nil ?_
  refine TC.seq ?_
  refine TC.seq ?_
  refine TC.region ?_
  refine S.mv ?_
  refine S.r (Qt.eqp_some uT rfl) ?_
  refine S.nil ?_
  refine S.if_f rfl ?_
  refine TC.skip ?_
  refine TC.seq ?_
  refine TC.region ?_
  refine S.r (Qt.load rfl (Ld.one hz2 oT rfl)) ?_
  refine S.o (OpV.con0 J39 rfl (fun w hw => Calls.ret (zdM b hb w)) ?_)
  refine S.mv ?_
  refine S.r (Qt.extract rfl rfl) ?_
  refine S.r (Qt.extract rfl rfl) ?_
  refine S.as ?_
  refine S.as ?_
  refine S.nil ?_
  refine TC.seq ?_
  refine TC.seq ?_
  refine TC.region ?_
  refine S.mv ?_
  refine S.r (Qt.nenil_nil uT rfl) ?_
  refine S.nil ?_
  refine S.if_f rfl ?_
  refine TC.skip ?_
  refine TC.seq ?_
  refine TC.region ?_
  refine S.mv ?_
  refine S.o (OpV.con (Pre := []) (R := _) J67 rfl pr (fun w hw => zlR E hEm (hgt b) hh2 w (hT.at hw)) ?_)
  rintro v L' ⟨tb2, m2, rfl, rfl⟩
  refine S.mv ?_
  refine S.r (Qt.extract rfl rfl) ?_
  refine S.r (Qt.extract rfl rfl) ?_
  refine S.o (OpV.alloc zT (fun b8 => ?_))
  refine S.opN rfl (OpV.storeV0 rfl cw (by exact ce155) (by rfl) (by rfl) ?_)
  refine S.as ?_
  refine S.nil ?_
  refine TC.seq ?_
  refine TC.seq ?_
  refine TC.region ?_
  refine S.mv ?_
  refine S.r (Qt.nenil_nil uT rfl) ?_
  refine S.nil ?_
  refine S.if_f rfl ?_
  refine TC.skip ?_
  refine TC.seq ?_
  refine TC.seq ?_
  refine TC.region ?_
  refine S.mv ?_
  refine S.o (OpV.con (Pre := []) (R := _) J194 rfl pr (fun w hw => zns tb w) ?_)
  rintro v L' ⟨bF, rfl, rfl⟩
  refine S.nil ?_
  refine TC.block ?_
  refine TC.rangeFunc2 (α := Fin (lvT ms).length) (fun i : Fin (lvT ms).length => [Value.int .u64 (((lvT ms).getD i.val 0 : Nat) : Int), hv (getT E ms (0, (lvT ms).getD i.val 0))]) (fun ys => ys = List.finRange (lvT ms).length) (fun _ => True) (fun ys : List (Fin (lvT ms).length) => ∃ j, j ≤ (lvT ms).length ∧ ys = (List.finRange (lvT ms).length).take j) (fun pre L' => ∃ ms2, L' = [Blk tb2 243 (zar E (hgt b) m2), MapA m2 zau hv (ms2)] ∧ TreeOk E (hgt b) (zhl E g ((lvT ms).take pre.length)) ms2 ∧ ∀ y ∈ (lvT ms).take pre.length, y < b) (fun c ys L' => c = .exit 0 ∧ ∃ ms2 k, L' = [Blk tb2 243 (zar E (hgt b) m2), MapA m2 zau hv (ms2)] ∧ (TreeOk E (hgt b) (zhl E g ((lvT ms).take k)) ms2 ∧ ∀ y ∈ (lvT ms).take k, y < b) ∧ k < (lvT ms).length ∧ b ≤ (lvT ms).getD k 0) (L0 := [Blk tb2 243 (zar E (hgt b) m2), MapA m2 zau hv ([])]) (R := [Blk bF 155 [.pointer (some ⟨tb, 0, none⟩)], Blk b8 155 [.pointer (some ⟨tb2, 0, none⟩)], Blk b5 51 [.nilIface], Blk b4 155 [.pointer none], Blk b3 40 [.int .u64 (b : Int)]]) rfl rfl J207 rfl (fun _ => rfl) (pm2.trans (pc pm2)) ⟨[], rfl, by rw [List.length_nil, List.take_zero, zoS]; exact TreeOk.empty hE _, (fun y hy => by simp at hy)⟩ (fun w L' hw => zsU E tb mb height ms hn (lvT ms) rfl (lvT ms).length rfl bF w L' hw.sat.left (Ro.of_pre hw hB) (Ro.of_pre hw hM) (Ro.of_rest hw (.head _))) ?_ ?_ ?_
  · rintro w' l Dd Rr Rb pre x L' ⟨j, hj, hpj⟩ ⟨ms2, rfl, ht2, hlt⟩ hst
    obtain ⟨hxv, hpl⟩ := zsV hpj
    have hb3 := Ro.of_rest (A := Blk b3 40 [.int .u64 (b : Int)]) hst (.tail _ (.tail _ (.tail _ (.tail _ (.head _)))))
    have hb8 := Ro.of_rest (A := Blk b8 155 [.pointer (some ⟨tb2, 0, none⟩)]) hst (.tail _ (.head _))
    have hT1 := hT.pre hst
    have hgx : getT E ms (0, ((lvT ms).getD x.val 0)) = g ((lvT ms).getD x.val 0) := ht.leafv (ht.lv.1 (zbk 0 x.isLt)).1
    refine TC.seq ?_
    refine TC.region ?_
    refine S.as ?_
    refine S.nil ?_
    refine TC.region ?_
    refine S.o (OpV.alloc zT (fun b10 => ?_))
    refine S.opN rfl (OpV.storeV0 (v := hv (_)) rfl rfl (zab ce49) (zai _) (zaf _) ?_)
    refine S.nil ?_
    refine ⟨_, Sub.trans (sk sr) (Sub.of_perm pm1), ?_⟩
    refine TC.block ?_
    refine TC.seq ?_
    refine TC.seq ?_
    refine TC.region ?_
    refine S.mv ?_
    refine S.r (Qt.load rfl (Ld.one (v := .int .u64 (b : Int)) (Has.ro hb3) oT rfl)) ?_
    refine S.dec rfl rfl (Qt.ge rfl rfl) (fun h37 => ?_) (fun h37 => ?_)
    · refine S.nil ?_
      refine S.if_t rfl ?_
      refine TC.exit ?_
      exact ⟨_, Sub.trans (sk (sk (sk (sk (sd sn0))))) (sk (Sub.trans (sk (Sub.trans (sk (Sub.trans (sk sr) (Sub.of_perm pm1))) (Sub.of_perm pm1))) (Sub.of_perm pm1))), rfl, ms2, pre.length, rfl, ⟨ht2, hlt⟩, hpl, by rw [← hxv]; exact h37⟩
    · refine S.nil ?_
      refine S.if_f rfl ?_
      refine TC.skip ?_
      refine TC.seq ?_
      refine TC.region ?_
      have hs : ((lvT ms).getD x.val 0) < 2 ^ hgt b := by omega
      refine S.r (Qt.load rfl (Ld.one (v := .pointer (some ⟨tb2, 0, none⟩)) (Has.ro hb8) oT rfl)) ?_
      refine S.mv ?_
      refine S.r (Qt.load rfl (Ld.hash1 (x := getT E ms (0, ((lvT ms).getD x.val 0))) hz1 rT ce49)) ?_
      refine S.o (OpV.con (Pre := [Blk tb2 243 (zar E (hgt b) m2), MapA m2 zau hv (ms2)]) (R := _) J102 rfl (pm3.trans (pc pm3)) (fun w hw => ziH E tb2 m2 (hgt b) ms2 ((lvT ms).getD x.val 0) (getT E ms (0, ((lvT ms).getD x.val 0))) hh2 hs w hw.sat.left (hT1.pre hw)) ?_)
      rintro v L' ⟨rfl, rfl⟩
      refine S.as ?_
      refine S.nil ?_
      refine TC.seq ?_
      refine TC.region ?_
      refine S.mv ?_
      refine S.r (Qt.nenil_nil uT rfl) ?_
      refine S.nil ?_
      refine S.if_f rfl ?_
      refine TC.skip ?_
      refine ⟨_, Sub.trans (sk (sk (sk (sk (sd sn0))))) (Sub.trans (sk (Sub.trans (sk sr) (Sub.of_perm pm3))) (Sub.of_perm pm2)), _, rfl, ?_⟩
      rw [hgx, zaJ, zoQ hpl, ← zm1, ← hxv]
      rw [← hxv] at ht2 hlt
      exact ⟨ht2.set hs _, fun y hy => (List.mem_append.1 hy).elim (hlt y) (fun e => by rw [List.mem_singleton.1 e]; omega)⟩
  · rintro Dd ys L' rfl ⟨ms2, rfl, ht2, hlt⟩
    rw [List.length_finRange, List.take_length] at ht2 hlt
    refine TC.seq ?_
    refine TC.region ?_
    refine S.r (Qt.load rfl (Ld.one (v := .pointer (some ⟨tb2, 0, none⟩)) (Has.at 4 rfl) oT rfl)) ?_
    refine S.opN rfl (OpV.storeV6 rfl cw (by exact ce155) (by rfl) (by rfl) ?_)
    refine S.opN rfl (OpV.storeV5 rfl cw (by exact ce51) (by rfl) (by rfl) ?_)
    refine S.nil ?_
    refine TC.ret ?_
    refine finQ.retM rfl sr (RVs.cell rfl (Ld.one (Has.at 5 rfl) oT (rfl)) (RVs.cell rfl (Ld.one (Has.at 4 rfl) oT (rfl)) RVs.nil)) (sk (sk (sd (sd (sd (sd (sd sn0))))))) ?_
    refine ⟨tb2, m2, ms2, rfl, rfl, ?_⟩
    rw [← zoT E g hlt]
    exact ht2
  · rintro Dd c ys L' - ⟨rfl, ms2, k, rfl, ⟨ht2, hlt⟩, hk, hbk⟩
    refine TC.exit ?_
    refine TC.seq ?_
    refine TC.region ?_
    refine S.r (Qt.load rfl (Ld.one (v := .pointer (some ⟨tb2, 0, none⟩)) (Has.at 4 rfl) oT rfl)) ?_
    refine S.opN rfl (OpV.storeV6 rfl cw (by exact ce155) (by rfl) (by rfl) ?_)
    refine S.opN rfl (OpV.storeV5 rfl cw (by exact ce51) (by rfl) (by rfl) ?_)
    refine S.nil ?_
    refine TC.ret ?_
    refine finQ.retM rfl sr (RVs.cell rfl (Ld.one (Has.at 5 rfl) oT (rfl)) (RVs.cell rfl (Ld.one (Has.at 4 rfl) oT (rfl)) RVs.nil)) (sk (sk (sd (sd (sd (sd (sd sn0))))))) ?_
    refine ⟨tb2, m2, ms2, rfl, rfl, ?_⟩
    rw [← zoU E g (zl3 ht.nodup) hk rfl hlt hbk]
    exact ht2
theorem zp1 (root : H32) (z : Int) (A : OAd) (c : Nat) (xs : List Nat) (hc : xs.length ≤ c) (B : OAd) (b : Nat) (ls : List H32) (Z : OAd) (e : Nat) (bs : List H32) (N : OAd) (n : Nat) (ns : List H32) (hb : ls.length ≤ b) (hbs : bs.length ≤ e) (hns : ns.length ≤ n) (k : Nat) (hk : k ≠ 0) (hck : chkR root z xs ls bs = k) (w0 : World) (hlow : ∀ x ∈ xs, x < 18446744073709551616) (hR : Ro w0 [] (SlA A (u64s xs))) (hB : Ro w0 [] (SlA B (hcs ls))) (hD : Ro w0 [] (SlA Z (hcs bs))) (hN : Ro w0 [] (SlA N (hcs ns))) (hT : Tabs 3 1 w0 []) :
  Calls prog 107 #[.agg #[.slice A xs.length c, .slice B ls.length b, .slice Z bs.length e], hv root, .int .i64 z, .slice N ns.length n] w0 (Post w0 [] fun v L => v = .tuple #[hv zac, .iface 73 (.int .i64 (k : Int))] ∧ L = []) := by
 refine co 33 [.cell 8 49, .tmp 9] func107 ?_
 refine gw ?_
 intro b4
 refine gw ?_
 intro b5
 refine gw ?_
 intro b8
 refine gw ?_
 refine S.c0 J105 (fun w hw => (by have h := ze7 root z A c xs hc B b ls Z e bs hb hbs w hlow (Rd.ro hR w hw) (Rd.ro hB w hw) (Rd.ro hD w hw) (hT.at hw); rw [hck, zdd hk] at h; exact h : Calls prog 105 #[hv root, .int .i64 z, .slice A xs.length c, .slice B ls.length b, .slice Z bs.length e] w (Ret w (.iface 73 (.int .i64 (k : Int)))))) (gw ?_)
 refine S.r (Qt.build (v := hv zac) rfl (fun _ => by kernel_rfl)) (gw ?_)
 refine S.opN rfl (OpV.storeV0 (v := hv (_)) rfl rfl (zab ce49) (zai _) (zaf _) ?_)
 refine gw ?_
 refine TC.ret ?_
 refine finQ.ret (RVs.cell rfl (Ld.all hz0 rT (zab ce49)) rv) sn ?_
 exact ⟨rfl, rfl⟩
theorem zp2 (root : H32) (z : Int) (A : OAd) (c : Nat) (xs : List Nat) (hc : xs.length ≤ c) (B : OAd) (b : Nat) (ls : List H32) (Z : OAd) (e : Nat) (bs : List H32) (N : OAd) (n : Nat) (ns : List H32) (hb : ls.length ≤ b) (hbs : bs.length ≤ e) (hns : ns.length ≤ n) (hck : chkR root z xs ls bs = 0) (w0 : World) (hlow : ∀ x ∈ xs, x < 18446744073709551616) (hR : Ro w0 [] (SlA A (u64s xs))) (hB : Ro w0 [] (SlA B (hcs ls))) (hD : Ro w0 [] (SlA Z (hcs bs))) (hN : Ro w0 [] (SlA N (hcs ns))) (hT : Tabs 3 1 w0 []) :
  Calls prog 107 #[.agg #[.slice A xs.length c, .slice B ls.length b, .slice Z bs.length e], hv root, .int .i64 z, .slice N ns.length n] w0 (Post w0 [] fun v L => v = .tuple #[hv (zbL z xs ns bs).1, errv 73 (zbL z xs ns bs).2] ∧ L = []) := by
 refine co 33 [.cell 8 49, .tmp 9] func107 ?_
 refine gw ?_
 intro b4
 refine gw ?_
 intro b5
 refine gw ?_
 intro b8
 refine gw ?_
 refine S.c0 J105 (fun w hw => (by have h := ze7 root z A c xs hc B b ls Z e bs hb hbs w hlow (Rd.ro hR w hw) (Rd.ro hB w hw) (Rd.ro hD w hw) (hT.at hw); rw [hck] at h; exact h : Calls prog 105 #[hv root, .int .i64 z, .slice A xs.length c, .slice B ls.length b, .slice Z bs.length e] w (Ret w .nilIface))) (gw ?_)
 refine S.c0 J168 (fun w hw => ziw z A c xs hc N n ns Z e bs hns hbs w hlow (Rd.ro hR w hw) (Rd.ro hN w hw) (Rd.ro hD w hw) (hT.at hw)) (gw ?_)
 refine S.opN rfl (OpV.storeV0 (v := hv (_)) rfl rfl (zab ce49) (zai _) (zaf _) ?_)
 refine gw ?_
 refine TC.ret ?_
 refine finQ.ret (RVs.cell rfl (Ld.all hz0 rT (zab ce49)) rv) sn ?_
 exact ⟨rfl, rfl⟩
theorem zmn (root : H32) (z : Int) (A : OAd) (c : Nat) (xs : List Nat) (hc : xs.length ≤ c) (B : OAd) (b : Nat) (ls : List H32) (Z : OAd) (e : Nat) (bs : List H32) (N : OAd) (n : Nat) (ns : List H32) (hb : ls.length ≤ b) (hbs : bs.length ≤ e) (hns : ns.length ≤ n) (w0 : World) (hlow : ∀ x ∈ xs, x < 18446744073709551616) (hR : Ro w0 [] (SlA A (u64s xs))) (hB : Ro w0 [] (SlA B (hcs ls))) (hD : Ro w0 [] (SlA Z (hcs bs))) (hN : Ro w0 [] (SlA N (hcs ns))) (hT : Tabs 3 1 w0 []) : Calls prog 107 #[.agg #[.slice A xs.length c, .slice B ls.length b, .slice Z bs.length e], hv root, .int .i64 z, .slice N ns.length n] w0 (Ret w0 (.tuple #[hv (zcL root z xs ls bs ns).1, errv 73 (zcL root z xs ls bs ns).2])) := by
 by_cases hk : chkR root z xs ls bs = 0
 ·rw [zcL, if_neg (fun h => h hk)]
  exact Calls.ret (zp2 root z A c xs hc B b ls Z e bs N n ns hb hbs hns hk w0 hlow hR hB hD hN hT)
 ·rw [zcL, if_pos hk, zdd hk]
  exact Calls.ret (zp1 root z A c xs hc B b ls Z e bs N n ns hb hbs hns _ hk rfl w0 hlow hR hB hD hN hT)
end Go.Proofs.YtgdjcmehlhebdaaGreatDoor
