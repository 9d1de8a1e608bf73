/- Facts of the table that the turned walks need -/
import Derived.Test.YtgdjcmehlhebdaaGreatDoorYW
set_option maxHeartbeats 25600000
namespace Go.Proofs.YtgdjcmehlhebdaaGreatDoor
open _root_.Go.Proofs.Tryz
open Go.E
set_option maxRecDepth 4000
theorem J102 : zae prog 102 := ⟨_, func102, by kernel_rfl, rfl⟩
theorem J105 : zae prog 105 := ⟨_, func105, by kernel_rfl, rfl⟩
theorem J194 : zae prog 194 := ⟨_, func194, by kernel_rfl, rfl⟩
theorem J207 : zae prog 207 := ⟨_, func207, by kernel_rfl, rfl⟩
theorem J215 : zae prog 215 := ⟨_, func215, by kernel_rfl, rfl⟩
theorem J216 : zae prog 216 := ⟨_, func216, by kernel_rfl, rfl⟩
theorem J217 : zae prog 217 := ⟨_, func217, by kernel_rfl, rfl⟩
theorem J218 : zae prog 218 := ⟨_, func218, by kernel_rfl, rfl⟩
theorem J219 : zae prog 219 := ⟨_, func219, by kernel_rfl, rfl⟩
theorem J220 : zae prog 220 := ⟨_, func220, by kernel_rfl, rfl⟩
theorem J221 : zae prog 221 := ⟨_, func221, by kernel_rfl, rfl⟩
theorem J222 : zae prog 222 := ⟨_, func222, by kernel_rfl, rfl⟩
theorem J223 : zae prog 223 := ⟨_, func223, by kernel_rfl, rfl⟩
theorem J224 : zae prog 224 := ⟨_, func224, by kernel_rfl, rfl⟩
theorem J225 : zae prog 225 := ⟨_, func225, by kernel_rfl, rfl⟩
theorem J226 : zae prog 226 := ⟨_, func226, by kernel_rfl, rfl⟩
theorem J228 : zae prog 228 := ⟨_, func228, by kernel_rfl, rfl⟩
theorem J229 : zae prog 229 := ⟨_, func229, by kernel_rfl, rfl⟩
theorem J230 : zae prog 230 := ⟨_, func230, by kernel_rfl, rfl⟩
theorem J231 : zae prog 231 := ⟨_, func231, by kernel_rfl, rfl⟩
theorem J232 : zae prog 232 := ⟨_, func232, by kernel_rfl, rfl⟩
theorem J233 : zae prog 233 := ⟨_, func233, by kernel_rfl, rfl⟩
theorem J234 : zae prog 234 := ⟨_, func234, by kernel_rfl, rfl⟩
theorem zsP {n a b k : Nat} {d : Array Nat} (ha : a < n) (hb : b < n) : (Go.Sort.order2 ltN d a b k).1 < n ∧ (Go.Sort.order2 ltN d a b k).2.1 < n ∧ (Go.Sort.order2 ltN d a b k).2.2 ≤ k + 1 := by
 by_cases h : ltN d[b]! d[a]! = true
 ·rw [o2t h]; exact ⟨hb, ha, Nat.le_refl _⟩
 ·rw [o2f h]; exact ⟨ha, hb, Nat.le_succ _⟩
theorem ztz {n a b e k : Nat} {d : Array Nat} (ha : a < n) (hb : b < n) (he : e < n) : (Go.Sort.median ltN d a b e k).1 < n ∧ (Go.Sort.median ltN d a b e k).2 ≤ k + 3 := by
 refine ⟨?_, Go.Sort.median_count ltN d a b e k⟩
 rcases Go.Sort.median_mem ltN d a b e k with h | h | h <;> rw [h] <;> assumption
theorem zpM {n a k : Nat} {d : Array Nat} (h1 : 1 ≤ a) (h : a + 1 < n) : (Go.Sort.medianAdjacent ltN d a k).1 < n ∧ (Go.Sort.medianAdjacent ltN d a k).2 ≤ k + 3 := ztz ow ow h
theorem zsQ (x : Nat) (w0 : World) : Calls prog 233 #[.int .u64 (x : Int)] w0 (Ret w0 (.bool false)) := by
 refine Calls.ret ?_
 refine co 6 [.tmp 2] func233 ?_
 refine gw ?_
 refine S.r (Qt.dF (Qt.ne rfl rfl) (fun h => h rfl)) (gw ?_)
 refine TC.ret (fR ?_)
 exact ⟨rfl, rfl⟩
theorem zr2 (x y : Nat) (w0 : World) : Calls prog 224 #[.int .u64 (x : Int), .int .u64 (y : Int)] w0 (Ret w0 (.bool (ltN x y))) := by
 refine Calls.ret ?_
 refine co 17 [.tmp 4] func224 ?_
 refine gw ?_
 refine S.c0 J233 (fun w hw => zsQ x w) (gw ?_)
 refine S.decg rfl rfl rfl (Qt.lt rfl rfl) (fun h15 => gw ?_) (fun h15 => gw ?_)
 ·refine TC.ret (fR ?_)
  exact ⟨by rw [ltN]; simp [h15]; rfl, rfl⟩
 ·refine TC.ret (fR ?_)
  exact ⟨by rw [ltN]; simp [h15]; rfl, rfl⟩
theorem zcr {x y : Nat} (h : ltN x y = true) (w0 : World) : Calls prog 224 #[.int .u64 (x : Int), .int .u64 (y : Int)] w0 (Ret w0 (.bool true)) := h ▸ zr2 x y w0
theorem zcs {x y : Nat} (h : ¬ ltN x y = true) (w0 : World) : Calls prog 224 #[.int .u64 (x : Int), .int .u64 (y : Int)] w0 (Ret w0 (.bool false)) := Bool.eq_false_iff.2 h ▸ zr2 x y w0
theorem zez (g n cp : Nat) (d : Array Nat) (r : List Value) (hn : d.size = n) (hm : n < 4294967296) (s k : Nat) (hk : k ≤ 100) (a b : Nat) (ha : a < n) (hb : b < n) (w0 : World) (hL : Sat w0 [Blk g 40 (blkD (d) r), Blk s 3 [.int .i64 ((k : Nat) : Int)]]) :
  Calls prog 234 #[.slice (some ⟨g, 0, none⟩) n cp, .int .i64 ((a : Nat) : Int), .int .i64 ((b : Nat) : Int), .pointer (some ⟨s, 0, none⟩)] w0 (Post w0 (fps [Blk g 40 (blkD (d) r), Blk s 3 [.int .i64 ((k : Nat) : Int)]]) fun v L => v = .tuple #[.int .i64 (((Go.Sort.order2 ltN d a b k).1 : Nat) : Int), .int .i64 (((Go.Sort.order2 ltN d a b k).2.1 : Nat) : Int)] ∧ L = [Blk g 40 (blkD (d) r), Blk s 3 [.int .i64 (((Go.Sort.order2 ltN d a b k).2.2 : Nat) : Int)]]) := by
 refine cof (L := [Blk g 40 (blkD (d) r), Blk s 3 [.int .i64 ((k : Nat) : Int)]]) 28 [.tmp 8, .tmp 9] func234 hL ?_
 refine gw ?_
 refine dw ([], []) (gw ?_)
 refine D.qY 2 rfl (Qt.index uT cT rfl rfl ow (Has.blk hz0) (by simp only [zaa]; omega)) ?_
 refine D.qY 3 rfl (Qt.load rfl (Ld.sl (Has.blk hz0) oT (zak (by (try dsimp only); omega)))) (gw ?_)
 refine D.qY 6 rfl (Qt.index uT cT rfl rfl ow (Has.blk hz0) (by simp only [zaa]; omega)) ?_
 refine D.qY 7 rfl (Qt.load rfl (Ld.sl (Has.blk hz0) oT (zak (by (try dsimp only); omega)))) ?_
 by_cases h18 : ltN d[b]! d[a]! = true
 ·refine D.c0 8 rfl J224 (fun w hw => zcr h18 w) ?_
  refine D.fi (gw ?_)
  refine S.opN rfl (OpV.storeV1 rfl cw (by exact ce3) (by rfl) (by rfl) ?_)
  refine gw ?_
  refine TC.ret (finQ.ret rv sr ?_)
  rw [o2t h18]; exact ⟨rfl, rfl⟩
 ·refine D.c0 8 rfl J224 (fun w hw => zcs h18 w) ?_
  refine D.fi (gw ?_)
  refine TC.ret (finQ.ret rv sr ?_)
  rw [o2f h18]; exact ⟨rfl, rfl⟩
theorem zeA (g n cp : Nat) (d : Array Nat) (r : List Value) (hn : d.size = n) (hm : n < 4294967296) (s k : Nat) (hk : k ≤ 90) (a b e : Nat) (ha : a < n) (hb : b < n) (he : e < n) (w0 : World) (hL : Sat w0 [Blk g 40 (blkD (d) r), Blk s 3 [.int .i64 ((k : Nat) : Int)]]) :
  Calls prog 232 #[.slice (some ⟨g, 0, none⟩) n cp, .int .i64 ((a : Nat) : Int), .int .i64 ((b : Nat) : Int), .int .i64 ((e : Nat) : Int), .pointer (some ⟨s, 0, none⟩)] w0 (Post w0 (fps [Blk g 40 (blkD (d) r), Blk s 3 [.int .i64 ((k : Nat) : Int)]]) fun v L => v = .int .i64 (((Go.Sort.median ltN d a b e k).1 : Nat) : Int) ∧ L = [Blk g 40 (blkD (d) r), Blk s 3 [.int .i64 (((Go.Sort.median ltN d a b e k).2 : Nat) : Int)]]) := by
 refine cof (L := [Blk g 40 (blkD (d) r), Blk s 3 [.int .i64 ((k : Nat) : Int)]]) 36 [.tmp 10] func232 hL ?_
 have m1 := zsP (d := d) (k := k) ha hb
 have m2 := zsP (d := d) (k := (Go.Sort.order2 ltN d a b k).2.2) m1.2.1 he
 have m3 := zsP (d := d) (k := (Go.Sort.order2 ltN d (Go.Sort.order2 ltN d a b k).2.1 e (Go.Sort.order2 ltN d a b k).2.2).2.2) m1.1 m2.1
 refine gw ?_
 refine S.o (OpV.con (Pre := [Blk g 40 (blkD (d) r), Blk s 3 [.int .i64 ((k : Nat) : Int)]]) (R := _) J234 rfl pr (fun w hw => zez g n cp d r hn hm s (k) ow (a) (b) ow ow w hw.sat.left) ?_)
 rintro v L' ⟨rfl, rfl⟩
 refine gw ?_
 refine S.o (OpV.con (Pre := [Blk g 40 (blkD (d) r), Blk s 3 [.int .i64 (((Go.Sort.order2 ltN d a b k).2.2 : Nat) : Int)]]) (R := _) J234 rfl pr (fun w hw => zez g n cp d r hn hm s ((Go.Sort.order2 ltN d a b k).2.2) ow ((Go.Sort.order2 ltN d a b k).2.1) (e) ow ow w hw.sat.left) ?_)
 rintro v L' ⟨rfl, rfl⟩
 refine gw ?_
 refine S.o (OpV.con (Pre := [Blk g 40 (blkD (d) r), Blk s 3 [.int .i64 (((Go.Sort.order2 ltN d (Go.Sort.order2 ltN d a b k).2.1 e (Go.Sort.order2 ltN d a b k).2.2).2.2 : Nat) : Int)]]) (R := _) J234 rfl pr (fun w hw => zez g n cp d r hn hm s ((Go.Sort.order2 ltN d (Go.Sort.order2 ltN d a b k).2.1 e (Go.Sort.order2 ltN d a b k).2.2).2.2) ow ((Go.Sort.order2 ltN d a b k).1) ((Go.Sort.order2 ltN d (Go.Sort.order2 ltN d a b k).2.1 e (Go.Sort.order2 ltN d a b k).2.2).1) ow ow w hw.sat.left) ?_)
 rintro v L' ⟨rfl, rfl⟩
 refine gw ?_
 refine TC.ret (finQ.ret rv sr ?_)
 exact ⟨rfl, rfl⟩
theorem zhb (g n cp : Nat) (d : Array Nat) (r : List Value) (hn : d.size = n) (hm : n < 4294967296) (s k : Nat) (hk : k ≤ 90) (a : Nat) (h1 : 1 ≤ a) (ha : a + 1 < n) (w0 : World) (hL : Sat w0 [Blk g 40 (blkD (d) r), Blk s 3 [.int .i64 ((k : Nat) : Int)]]) :
  Calls prog 231 #[.slice (some ⟨g, 0, none⟩) n cp, .int .i64 ((a : Nat) : Int), .pointer (some ⟨s, 0, none⟩)] w0 (Post w0 (fps [Blk g 40 (blkD (d) r), Blk s 3 [.int .i64 ((k : Nat) : Int)]]) fun v L => v = .int .i64 (((Go.Sort.medianAdjacent ltN d a k).1 : Nat) : Int) ∧ L = [Blk g 40 (blkD (d) r), Blk s 3 [.int .i64 (((Go.Sort.medianAdjacent ltN d a k).2 : Nat) : Int)]]) := by
 refine cof (L := [Blk g 40 (blkD (d) r), Blk s 3 [.int .i64 ((k : Nat) : Int)]]) 15 [.tmp 6] func231 hL ?_
 refine gw ?_
 refine S.r (Qt.sub (b := 1) rfl rfl ow km) (gw ?_)
 refine S.o (OpV.con (Pre := [Blk g 40 (blkD (d) r), Blk s 3 [.int .i64 ((k : Nat) : Int)]]) (R := _) J232 rfl pr (fun w hw => zeA g n cp d r hn hm s k hk (a - 1) a (a + 1) ow ow ha w hw.sat.left) ?_)
 rintro v L' ⟨rfl, rfl⟩
 refine gw ?_
 refine TC.ret (finQ.ret rv sr ?_)
 exact ⟨rfl, rfl⟩
theorem znq (g n cp : Nat) (d : Array Nat) (r : List Value) (hn : d.size = n) (hm : n < 4294967296) (a b : Nat) (hab : a < b) (hb : b ≤ n) (w0 : World) (hL : Sat w0 [Blk g 40 (blkD (d) r)]) :
  Calls prog 221 #[.slice (some ⟨g, 0, none⟩) n cp, .int .i64 ((a : Nat) : Int), .int .i64 ((b : Nat) : Int)] w0 (Post w0 (fps [Blk g 40 (blkD (d) r)]) fun v L => v = .tuple #[.int .i64 (((Go.Sort.choosePivot ltN d a b).1 : Nat) : Int), .int .i64 (Go.Sort.hintCode (Go.Sort.choosePivot ltN d a b).2)] ∧ L = [Blk g 40 (blkD (d) r)]) := by
 refine cof (L := [Blk g 40 (blkD (d) r)]) 57 [.tmp 6, .tmp 7] func221 hL ?_
 have p4 : (b - a) / 4 * 3 ≤ b - a := by omega
 refine gw ?_
 refine S.r (Qt.sub rfl rfl ow km) (gw ?_)
 intro b9
 refine gw ?_
 refine S.r (Qt.quo (b := 4) rfl rfl ow km) ?_
 refine S.r (Qt.mul (b := 1) rfl rfl km) ?_
 refine S.r (Qt.add rfl rfl km) (gw ?_)
 refine S.r (Qt.quo (b := 4) rfl rfl ow km) ?_
 refine S.r (Qt.mul (b := 2) rfl rfl km) ?_
 refine S.r (Qt.add rfl rfl km) (gw ?_)
 refine S.r (Qt.quo (b := 4) rfl rfl ow km) ?_
 refine S.r (Qt.mul (b := 3) rfl rfl km) ?_
 refine S.r (Qt.add rfl rfl km) (gw ?_)
 refine S.dec rfl rfl (Qt.ge (b := 8) rfl rfl) (fun h32 => gw ?_) (fun h32 => gw ?_)
 ·refine S.dec rfl rfl (Qt.ge (b := 50) rfl rfl) (fun h34 => ?_) (fun h34 => ?_)
  ·have m1 := zpM (n := n) (d := d) (a := (a + (b - a) / 4 * 1)) (k := 0) ow ow
   have m2 := zpM (n := n) (d := d) (a := (a + (b - a) / 4 * 2)) (k := (Go.Sort.medianAdjacent ltN d (a + (b - a) / 4 * 1) 0).2) ow ow
   have m3 := zpM (n := n) (d := d) (a := (a + (b - a) / 4 * 3)) (k := (Go.Sort.medianAdjacent ltN d (a + (b - a) / 4 * 2) (Go.Sort.medianAdjacent ltN d (a + (b - a) / 4 * 1) 0).2).2) ow ow
   refine gw ?_
   refine S.o (OpV.con (Pre := [Blk g 40 (blkD (d) r), Blk b9 3 [.int .i64 ((0 : Nat) : Int)]]) (R := _) J231 rfl pm1 (fun w hw => zhb g n cp d r hn hm b9 (0) ow ((a + (b - a) / 4 * 1)) ow ow w hw.sat.left) ?_)
   rintro v L' ⟨rfl, rfl⟩
   refine gw ?_
   refine S.o (OpV.con (Pre := [Blk g 40 (blkD (d) r), Blk b9 3 [.int .i64 (((Go.Sort.medianAdjacent ltN d (a + (b - a) / 4 * 1) 0).2 : Nat) : Int)]]) (R := _) J231 rfl pr (fun w hw => zhb g n cp d r hn hm b9 ((Go.Sort.medianAdjacent ltN d (a + (b - a) / 4 * 1) 0).2) ow ((a + (b - a) / 4 * 2)) ow ow w hw.sat.left) ?_)
   rintro v L' ⟨rfl, rfl⟩
   refine gw ?_
   refine S.o (OpV.con (Pre := [Blk g 40 (blkD (d) r), Blk b9 3 [.int .i64 (((Go.Sort.medianAdjacent ltN d (a + (b - a) / 4 * 2) (Go.Sort.medianAdjacent ltN d (a + (b - a) / 4 * 1) 0).2).2 : Nat) : Int)]]) (R := _) J231 rfl pr (fun w hw => zhb g n cp d r hn hm b9 ((Go.Sort.medianAdjacent ltN d (a + (b - a) / 4 * 2) (Go.Sort.medianAdjacent ltN d (a + (b - a) / 4 * 1) 0).2).2) ow ((a + (b - a) / 4 * 3)) ow ow w hw.sat.left) ?_)
   rintro v L' ⟨rfl, rfl⟩
   refine gw ?_
   refine S.o (OpV.con (Pre := [Blk g 40 (blkD (d) r), Blk b9 3 [.int .i64 (((Go.Sort.medianAdjacent ltN d (a + (b - a) / 4 * 3) (Go.Sort.medianAdjacent ltN d (a + (b - a) / 4 * 2) (Go.Sort.medianAdjacent ltN d (a + (b - a) / 4 * 1) 0).2).2).2 : Nat) : Int)]]) (R := _) J232 rfl pr (fun w hw => zeA g n cp d r hn hm b9 ((Go.Sort.medianAdjacent ltN d (a + (b - a) / 4 * 3) (Go.Sort.medianAdjacent ltN d (a + (b - a) / 4 * 2) (Go.Sort.medianAdjacent ltN d (a + (b - a) / 4 * 1) 0).2).2).2) ow ((Go.Sort.medianAdjacent ltN d (a + (b - a) / 4 * 1) 0).1) ((Go.Sort.medianAdjacent ltN d (a + (b - a) / 4 * 2) (Go.Sort.medianAdjacent ltN d (a + (b - a) / 4 * 1) 0).2).1) ((Go.Sort.medianAdjacent ltN d (a + (b - a) / 4 * 3) (Go.Sort.medianAdjacent ltN d (a + (b - a) / 4 * 2) (Go.Sort.medianAdjacent ltN d (a + (b - a) / 4 * 1) 0).2).2).1) ow ow ow w hw.sat.left) ?_)
   rintro v L' ⟨rfl, rfl⟩
   refine gw ?_
   refine S.dec rfl rfl (Qt.eq (b := 0) rfl rfl) (fun h52 => gw ?_) (fun h52 => gw ?_)
   ·refine TC.ret (finQ.ret rv (sk (sd sn0)) ?_)
    refine ⟨?_, rfl⟩
    rw [Go.Sort.choosePivot_eq, Go.Sort.rawPivot, if_pos h32, if_pos h34]
    simp only [Go.Sort.hintOf]
    rw [if_pos h52]
    rfl
   ·refine S.dec rfl rfl (Qt.eq (b := 12) rfl rfl) (fun h55 => gw ?_) (fun h55 => gw ?_)
    ·refine TC.ret (finQ.ret rv (sk (sd sn0)) ?_)
     refine ⟨?_, rfl⟩
     rw [Go.Sort.choosePivot_eq, Go.Sort.rawPivot, if_pos h32, if_pos h34]
     simp only [Go.Sort.hintOf]
     rw [if_neg h52, if_pos h55]
     rfl
    ·refine TC.ret (finQ.ret rv (sk (sd sn0)) ?_)
     refine ⟨?_, rfl⟩
     rw [Go.Sort.choosePivot_eq, Go.Sort.rawPivot, if_pos h32, if_pos h34]
     simp only [Go.Sort.hintOf]
     rw [if_neg h52, if_neg h55]
     rfl
  ·refine gw ?_
   refine S.o (OpV.con (Pre := [Blk g 40 (blkD (d) r), Blk b9 3 [.int .i64 ((0 : Nat) : Int)]]) (R := _) J232 rfl pm1 (fun w hw => zeA g n cp d r hn hm b9 (0) ow ((a + (b - a) / 4 * 1)) ((a + (b - a) / 4 * 2)) ((a + (b - a) / 4 * 3)) ow ow ow w hw.sat.left) ?_)
   rintro v L' ⟨rfl, rfl⟩
   refine gw ?_
   refine S.dec rfl rfl (Qt.eq (b := 0) rfl rfl) (fun h52 => gw ?_) (fun h52 => gw ?_)
   ·refine TC.ret (finQ.ret rv (sk (sd sn0)) ?_)
    refine ⟨?_, rfl⟩
    rw [Go.Sort.choosePivot_eq, Go.Sort.rawPivot, if_pos h32, if_neg h34]
    simp only [Go.Sort.hintOf]
    rw [if_pos h52]
    rfl
   ·refine S.dec rfl rfl (Qt.eq (b := 12) rfl rfl) (fun h55 => gw ?_) (fun h55 => gw ?_)
    ·refine TC.ret (finQ.ret rv (sk (sd sn0)) ?_)
     refine ⟨?_, rfl⟩
     rw [Go.Sort.choosePivot_eq, Go.Sort.rawPivot, if_pos h32, if_neg h34]
     simp only [Go.Sort.hintOf]
     rw [if_neg h52, if_pos h55]
     rfl
    ·refine TC.ret (finQ.ret rv (sk (sd sn0)) ?_)
     refine ⟨?_, rfl⟩
     rw [Go.Sort.choosePivot_eq, Go.Sort.rawPivot, if_pos h32, if_neg h34]
     simp only [Go.Sort.hintOf]
     rw [if_neg h52, if_neg h55]
     rfl
 ·refine S.dec rfl rfl (Qt.eq (b := 0) rfl rfl) (fun h52 => gw ?_) (fun h52 => gw ?_)
  ·refine TC.ret (finQ.ret rv (Sub.trans (sk (sd sn0)) (Sub.trans (sk sr) (Sub.of_perm pm1))) ?_)
   refine ⟨?_, rfl⟩
   rw [Go.Sort.choosePivot_eq, Go.Sort.rawPivot, if_neg h32]
   simp only [Go.Sort.hintOf]
   rfl
  ·refine S.dec rfl rfl (Qt.eq (b := 12) rfl rfl) (fun h55 => gw ?_) (fun h55 => gw ?_)
   ·refine TC.ret (finQ.ret rv (Sub.trans (sk (sd sn0)) (Sub.trans (sk sr) (Sub.of_perm pm1))) ?_)
    refine ⟨?_, rfl⟩
    rw [Go.Sort.choosePivot_eq, Go.Sort.rawPivot, if_neg h32]
    simp only [Go.Sort.hintOf]
    exact absurd rfl h52
   ·refine TC.ret (finQ.ret rv (Sub.trans (sk (sd sn0)) (Sub.trans (sk sr) (Sub.of_perm pm1))) ?_)
    refine ⟨?_, rfl⟩
    rw [Go.Sort.choosePivot_eq, Go.Sort.rawPivot, if_neg h32]
    simp only [Go.Sort.hintOf]
    exact absurd rfl h52
theorem ziP (g n cp : Nat) (d : Array Nat) (r : List Value) (hn : d.size = n) (hm : n < 4294967296) (a b : Nat) (hab : a ≤ b) (hb : b ≤ n) (w0 : World) (hL : Sat w0 [Blk g 40 (blkD (d) r)]) :
  Calls prog 218 #[.slice (some ⟨g, 0, none⟩) n cp, .int .i64 ((a : Nat) : Int), .int .i64 ((b : Nat) : Int)] w0 (Post w0 (fps [Blk g 40 (blkD (d) r)]) fun v L => v = .tuple #[] ∧ L = [Blk g 40 (blkD (Go.Sort.insertionSort ltN d a b) r)]) := by
 refine cof (L := [Blk g 40 (blkD (d) r)]) 49 [] func218 hL ?_
 refine gw ?_
 refine TC.loop (γ := Nat × Array Nat) [10, 11, 12, 15, 7, 16, 17, 18, 19, 20, 21, 22, 23, 24, 25, 26, 27, 28, 29, 30, 33, 34, 35, 36, 37, 38, 39, 40, 41, 42, 43, 44, 45, 46, 47, 48, 31, 32, 13, 14, 6] (fun q => [(6, .int .i64 ((q.1 : Nat) : Int))]) (fun q => [Blk g 40 (blkD q.2 r)]) (fun q => a + 1 ≤ q.1 ∧ q.2.size = n ∧ Go.Sort.insOuter ltN a b q.1 q.2 = Go.Sort.insertionSort ltN d a b) (fun q => b - q.1) ((a + 1, d))
  ⟨Nat.le_refl _, hn, rfl⟩ ⟨Out.refl _ _, ag⟩ sr ?_
 rintro ⟨i, e⟩ u ⟨hi, he, hq⟩
 dsimp only at hi he hq
 show TC _ _ _ (puts [(6, .int .i64 ((i : Nat) : Int))] (scr _ u _)) [Blk g 40 (blkD (e) r)]
 refine gw ?_
 refine S.dec rfl rfl (Qt.lt rfl rfl) (fun h12 => gw ?_) (fun h12 => gw ?_)
 ·refine TC.loop (γ := Nat × Array Nat) [16, 17, 18, 19, 20, 21, 22, 23, 24, 25, 26, 27, 28, 29, 30, 33, 34, 35, 36, 37, 38, 39, 40, 41, 42, 43, 44, 45, 46, 47, 48, 31, 32, 7] (fun q => [(7, .int .i64 ((q.1 : Nat) : Int))]) (fun q => [Blk g 40 (blkD q.2 r)]) (fun q => q.1 ≤ i ∧ q.2.size = n ∧ Go.Sort.insInner ltN a q.1 q.2 = Go.Sort.insInner ltN a i e) (fun q => q.1) ((i, e))
   ⟨Nat.le_refl _, he, rfl⟩ ⟨Out.refl _ _, ag⟩ sr ?_
  rintro ⟨j, f⟩ u ⟨hj, hf, hqf⟩
  dsimp only at hj hf hqf
  show TC _ _ _ (puts [(7, .int .i64 ((j : Nat) : Int))] (scr _ u _)) [Blk g 40 (blkD (f) r)]
  refine gw ?_
  refine dw ([], []) (gw ?_)
  refine D.decX (k := 2) rfl (by kernel_rfl) (by kernel_rfl) (by kernel_rfl) rfl rfl (Qt.gt rfl rfl) (fun h18 => gw ?_) (fun h18 => gw ?_)
  ·refine D.gY 6 rfl rfl (Qt.index uT cT rfl rfl ow (Has.blk hz0) (by simp only [zaa]; omega)) ?_
   refine D.gY 7 rfl rfl (Qt.load rfl (Ld.sl (Has.blk hz0) oT (zak (by (try dsimp only); omega)))) (gw ?_)
   refine D.gY 10 rfl rfl (Qt.sub (b := 1) rfl rfl ow km) ?_
   refine D.gY 11 rfl rfl (Qt.index uT cT rfl rfl ow (Has.blk hz0) (by simp only [zaa]; omega)) ?_
   refine D.gY 12 rfl rfl (Qt.load rfl (Ld.sl (Has.blk hz0) oT (zak (by (try dsimp only); omega)))) ?_
   by_cases h29 : ltN f[j]! f[j - 1]! = true
   ·refine D.cg0 13 rfl rfl J224 (fun w hw => zcr h29 w) (gw ?_)
    refine D.fi (gw ?_)
    refine dw ([15, 17], []) (gw ?_)
    refine D.p 4 rfl (Qt.sub (b := 1) rfl rfl ow km) (gw ?_)
    refine D.qY 7 rfl (Qt.sub (b := 1) rfl rfl ow km) ?_
    refine D.qY 8 rfl (Qt.index uT cT rfl rfl ow (Has.blk hz0) (by simp only [zaa]; omega)) ?_
    refine D.qY 9 rfl (Qt.load rfl (Ld.sl (Has.blk hz0) oT (zak (by (try dsimp only); omega)))) (gw ?_)
    refine D.qY 12 rfl (Qt.index uT cT rfl rfl ow (Has.blk hz0) (by simp only [zaa]; omega)) ?_
    refine D.qY 13 rfl (Qt.load rfl (Ld.sl (Has.blk hz0) oT (zak (by (try dsimp only); omega)))) ?_
    refine D.qY 14 rfl (Qt.index1 uT cT rfl rfl ow (Has.blk hz0) (by simp only [zaa]; omega)) ?_
    refine D.oN 15 rfl (OpV.storeE0 rfl cw cT rfl rfl (by simp only [zaa, Array.size_setIfInBounds]; omega) (zaE (by (try dsimp only); omega)) (sbk ?_))
    refine D.qY 16 rfl (Qt.index1 (i := j - 1) uT cT rfl rfl ow (Has.blk hz0) (by simp only [zaa, Array.size_setIfInBounds]; omega)) ?_
    refine D.oN 17 rfl (OpV.storeE0 rfl cw cT rfl rfl (by simp only [zaa, Array.size_setIfInBounds]; omega) (zaE (by (try simp only [Array.size_setIfInBounds]); omega)) (sbk ?_))
    refine D.fi (gw ?_)
    refine S.r (Qt.sub (b := 1) rfl rfl ow km) (gw ?_)
    refine ⟨(j - 1, Go.Sort.swp f j (j - 1)), ?_, ?_, ⟨?_, ag⟩, sr⟩
    ·exact ⟨by dsimp only; omega, (Go.Sort.swp_size _ _ _).trans hf, (zoI h18 h29).symm.trans hqf⟩
    ·show _ < _; dsimp only; omega
    exact outs
   ·refine D.cg0 13 rfl rfl J224 (fun w hw => zcs h29 w) (gw ?_)
    refine D.fi (gw ?_)
    refine TC.exit (TC.region (gw ?_))
    refine ⟨(i + 1, f), ?_, ?_, ⟨?_, ag⟩, sr⟩
    ·exact ⟨by dsimp only; omega, hf, by dsimp only; rw [← hq, zjy h12, ← hqf, zm0 h29]⟩
    ·show _ < _; dsimp only; omega
    exact outs
  ·refine D.fi (gw ?_)
   refine TC.exit (TC.region (gw ?_))
   refine ⟨(i + 1, f), ?_, ?_, ⟨?_, ag⟩, sr⟩
   ·exact ⟨by dsimp only; omega, hf, by dsimp only; rw [← hq, zjy h12, ← hqf, zoH h18]⟩
   ·show _ < _; dsimp only; omega
   exact outs
 ·refine TC.exit ?_
  refine finQ.normal RVs.nil sr ?_
  rw [← hq, zoJ h12]
  exact ⟨rfl, rfl⟩
theorem zrv (g n cp : Nat) (d : Array Nat) (r : List Value) (hn : d.size = n) (hm : n < 4294967296) (a b : Nat) (hab : a < b) (hb : b ≤ n) (w0 : World) (hL : Sat w0 [Blk g 40 (blkD (d) r)]) :
  Calls prog 222 #[.slice (some ⟨g, 0, none⟩) n cp, .int .i64 ((a : Nat) : Int), .int .i64 ((b : Nat) : Int)] w0 (Post w0 (fps [Blk g 40 (blkD (d) r)]) fun v L => v = .tuple #[] ∧ L = [Blk g 40 (blkD (Go.Sort.reverseRange d a b) r)]) := by
 refine cof (L := [Blk g 40 (blkD (d) r)]) 32 [] func222 hL ?_
 refine gw ?_
 refine S.r (Qt.sub (b := 1) rfl rfl ow km) (gw ?_)
 refine TC.loop (γ := Nat × Nat × Array Nat) [11, 12, 13, 14, 15, 16, 17, 18, 19, 20, 21, 22, 23, 24, 25, 26, 27, 28, 29, 6, 30, 31, 7] (fun q => [(6, .int .i64 ((q.1 : Nat) : Int)), (7, .int .i64 ((q.2.1 : Nat) : Int))]) (fun q => [Blk g 40 (blkD q.2.2 r)]) (fun q => q.2.1 < n ∧ q.2.2.size = n ∧ Go.Sort.reverseLoop q.1 q.2.1 q.2.2 = Go.Sort.reverseRange d a b) (fun q => q.2.1 - q.1) ((a, b - 1, d))
  ⟨by dsimp only; omega, hn, rfl⟩ ⟨Out.refl _ _, ag⟩ sr ?_
 rintro ⟨i, j, e⟩ u ⟨hj, he, hq⟩
 dsimp only at hj he hq
 show TC _ _ _ (puts [(6, .int .i64 ((i : Nat) : Int)), (7, .int .i64 ((j : Nat) : Int))] (scr _ u _)) [Blk g 40 (blkD (e) r)]
 refine gw ?_
 refine S.dec rfl rfl (Qt.lt rfl rfl) (fun h13 => gw ?_) (fun h13 => gw ?_)
 ·refine dw ([13, 15], []) (gw ?_)
  refine D.qY 6 rfl (Qt.index uT cT rfl rfl ow (Has.blk hz0) (by simp only [zaa]; omega)) ?_
  refine D.qY 7 rfl (Qt.load rfl (Ld.sl (Has.blk hz0) oT (zak (by (try dsimp only); omega)))) (gw ?_)
  refine D.qY 10 rfl (Qt.index uT cT rfl rfl ow (Has.blk hz0) (by simp only [zaa]; omega)) ?_
  refine D.qY 11 rfl (Qt.load rfl (Ld.sl (Has.blk hz0) oT (zak (by (try dsimp only); omega)))) ?_
  refine D.qY 12 rfl (Qt.index1 uT cT rfl rfl ow (Has.blk hz0) (by simp only [zaa]; omega)) ?_
  refine D.oN 13 rfl (OpV.storeE0 rfl cw cT rfl rfl (by simp only [zaa, Array.size_setIfInBounds]; omega) (zaE (by (try dsimp only); omega)) (sbk ?_))
  refine D.qY 14 rfl (Qt.index1 (i := j) uT cT rfl rfl ow (Has.blk hz0) (by simp only [zaa, Array.size_setIfInBounds]; omega)) ?_
  refine D.oN 15 rfl (OpV.storeE0 rfl cw cT rfl rfl (by simp only [zaa, Array.size_setIfInBounds]; omega) (zaE (by (try simp only [Array.size_setIfInBounds]); omega)) (sbk ?_))
  refine D.fi (gw ?_)
  refine S.r (Qt.sub (b := 1) rfl rfl ow km) (gw ?_)
  refine ⟨(i + 1, j - 1, Go.Sort.swp e i j), ?_, ?_, ⟨?_, ag⟩, sr⟩
  ·exact ⟨by dsimp only; omega, (Go.Sort.swp_size _ _ _).trans he, (zqR h13).symm.trans hq⟩
  ·show _ < _; dsimp only; omega
  exact outs
 ·refine TC.exit ?_
  refine finQ.normal RVs.nil sr ?_
  rw [← hq, zqQ h13]
  exact ⟨rfl, rfl⟩
theorem zj9 (g n cp : Nat) (d : Array Nat) (r : List Value) (hn : d.size = n) (hm : n < 4294967296) (lo hi first : Nat) (hlo : lo ≤ hi) (hf : first + hi ≤ n) (w0 : World) (hL : Sat w0 [Blk g 40 (blkD (d) r)]) :
  Calls prog 228 #[.slice (some ⟨g, 0, none⟩) n cp, .int .i64 ((lo : Nat) : Int), .int .i64 ((hi : Nat) : Int), .int .i64 ((first : Nat) : Int)] w0 (Post w0 (fps [Blk g 40 (blkD (d) r)]) fun v L => v = .tuple #[] ∧ L = [Blk g 40 (blkD (Go.Sort.siftDown ltN hi first lo d) r)]) := by
 refine cof (L := [Blk g 40 (blkD (d) r)]) 76 [] func228 hL ?_
 refine gw ?_
 refine TC.loop (γ := Nat × Array Nat) [11, 12, 13, 9, 14, 15, 16, 17, 18, 19, 20, 21, 22, 23, 24, 25, 26, 27, 28, 29, 30, 31, 32, 33, 34, 35, 36, 37, 38, 39, 40, 41, 42, 43, 44, 45, 46, 47, 48, 49, 50, 51, 52, 53, 54, 55, 56, 57, 58, 59, 60, 61, 62, 63, 64, 65, 66, 67, 68, 69, 70, 71, 72, 73, 74, 75, 8] (fun q => [(8, .int .i64 ((q.1 : Nat) : Int))]) (fun q => [Blk g 40 (blkD q.2 r)]) (fun q => q.1 ≤ hi ∧ q.2.size = n ∧ Go.Sort.siftDown ltN hi first q.1 q.2 = Go.Sort.siftDown ltN hi first lo d) (fun q => hi - q.1) ((lo, d))
  ⟨hlo, hn, rfl⟩ ⟨Out.refl _ _, ag⟩ sr ?_
 rintro ⟨root, e⟩ u ⟨hr, he, hq⟩
 dsimp only at hr he hq
 show TC _ _ _ (puts [(8, .int .i64 ((root : Nat) : Int))] (scr _ u _)) [Blk g 40 (blkD (e) r)]
 refine gw ?_
 refine S.r (Qt.mul (a := 2) rfl rfl km) (gw ?_)
 refine S.dec rfl rfl (Qt.ge rfl rfl) (fun h16 => gw ?_) (fun h16 => gw ?_)
 ·refine TC.exit ?_
  refine finQ.normal RVs.nil sr ?_
  rw [← hq, zjz h16]
  exact ⟨rfl, rfl⟩
 ·refine dw ([], []) (gw ?_)
  refine D.decX (k := 3) rfl (by kernel_rfl) (by kernel_rfl) (by kernel_rfl) rfl rfl (Qt.lt rfl rfl) (fun h20 => gw ?_) (fun h20 => gw ?_)
  ·refine D.gY 8 rfl rfl (Qt.add rfl rfl km) ?_
   refine D.gY 9 rfl rfl (Qt.index uT cT rfl rfl ow (Has.blk hz0) (by simp only [zaa]; omega)) ?_
   refine D.gY 10 rfl rfl (Qt.load rfl (Ld.sl (Has.blk hz0) oT (zak (by (try dsimp only); omega)))) (gw ?_)
   refine D.gY 14 rfl rfl (Qt.add rfl rfl km) (gw ?_)
   refine D.gY 16 rfl rfl (Qt.index uT cT rfl rfl ow (Has.blk hz0) (by simp only [zaa]; omega)) ?_
   refine D.gY 17 rfl rfl (Qt.load rfl (Ld.sl (Has.blk hz0) oT (zak (by (try dsimp only); omega)))) ?_
   by_cases h35 : ltN e[first + (2 * root + 1)]! e[first + (2 * root + 1) + 1]! = true
   ·refine D.cg0 18 rfl rfl J224 (fun w hw => zcr h35 w) (gw ?_)
    refine D.fi (gw ?_)
    refine dw ([], []) ?_
    have hk : kid e hi first root = (2 * root + 1 + 1) := if_pos ⟨h20, h35⟩
    refine gw ?_
    refine D.qY 3 rfl (Qt.add rfl rfl km) ?_
    refine D.qY 4 rfl (Qt.index uT cT rfl rfl ow (Has.blk hz0) (by simp only [zaa]; omega)) ?_
    refine D.qY 5 rfl (Qt.load rfl (Ld.sl (Has.blk hz0) oT (zak (by (try dsimp only); omega)))) (gw ?_)
    refine D.qY 9 rfl (Qt.add rfl rfl km) ?_
    refine D.qY 10 rfl (Qt.index uT cT rfl rfl ow (Has.blk hz0) (by simp only [zaa]; omega)) ?_
    refine D.qY 11 rfl (Qt.load rfl (Ld.sl (Has.blk hz0) oT (zak (by (try dsimp only); omega)))) ?_
    by_cases h51 : ltN e[first + root]! e[first + (2 * root + 1 + 1)]! = true
    ·refine D.c0 12 rfl J224 (fun w hw => zcr h51 w) (gw ?_)
     refine D.fi (gw ?_)
     refine dw ([21, 23], []) (gw ?_)
     refine D.qY 3 rfl (Qt.add rfl rfl km) (gw ?_)
     refine D.p 7 rfl (Qt.add rfl rfl km) (gw ?_)
     refine D.qY 11 rfl (Qt.add rfl rfl km) ?_
     refine D.qY 12 rfl (Qt.index uT cT rfl rfl ow (Has.blk hz0) (by simp only [zaa]; omega)) ?_
     refine D.qY 13 rfl (Qt.load rfl (Ld.sl (Has.blk hz0) oT (zak (by (try dsimp only); omega)))) (gw ?_)
     refine D.qY 17 rfl (Qt.add rfl rfl km) ?_
     refine D.qY 18 rfl (Qt.index uT cT rfl rfl ow (Has.blk hz0) (by simp only [zaa]; omega)) ?_
     refine D.qY 19 rfl (Qt.load rfl (Ld.sl (Has.blk hz0) oT (zak (by (try dsimp only); omega)))) ?_
     refine D.qY 20 rfl (Qt.index1 uT cT rfl rfl ow (Has.blk hz0) (by simp only [zaa]; omega)) ?_
     refine D.oN 21 rfl (OpV.storeE0 rfl cw cT rfl rfl (by simp only [zaa, Array.size_setIfInBounds]; omega) (zaE (by (try dsimp only); omega)) (sbk ?_))
     refine D.qY 22 rfl (Qt.index1 (i := first + (2 * root + 1 + 1)) uT cT rfl rfl ow (Has.blk hz0) (by simp only [zaa, Array.size_setIfInBounds]; omega)) ?_
     refine D.oN 23 rfl (OpV.storeE0 rfl cw cT rfl rfl (by simp only [zaa, Array.size_setIfInBounds]; omega) (zaE (by (try simp only [Array.size_setIfInBounds]); omega)) (sbk ?_))
     refine D.fi (gw ?_)
     refine ⟨((2 * root + 1 + 1), Go.Sort.swp e (first + root) (first + (2 * root + 1 + 1))), ?_, ?_, ⟨?_, ag⟩, sr⟩
     ·exact ⟨by dsimp only; omega, (Go.Sort.swp_size _ _ _).trans he, by dsimp only; rw [← hq, zeX h16 (by rw [hk]; exact h51), hk]⟩
     ·show _ < _; dsimp only; omega
     exact outs
    ·refine D.c0 12 rfl J224 (fun w hw => zcs h51 w) (gw ?_)
     refine D.fi (gw ?_)
     refine TC.ret ?_
     refine finQ.ret RVs.nil sr ?_
     rw [← hq, zeW h16 (by rw [hk]; exact h51)]
     exact ⟨rfl, rfl⟩
   ·refine D.cg0 18 rfl rfl J224 (fun w hw => zcs h35 w) (gw ?_)
    refine D.fi (gw ?_)
    refine dw ([], []) ?_
    have hk : kid e hi first root = (2 * root + 1) := if_neg (fun hc => h35 hc.2)
    refine gw ?_
    refine D.qY 3 rfl (Qt.add rfl rfl km) ?_
    refine D.qY 4 rfl (Qt.index uT cT rfl rfl ow (Has.blk hz0) (by simp only [zaa]; omega)) ?_
    refine D.qY 5 rfl (Qt.load rfl (Ld.sl (Has.blk hz0) oT (zak (by (try dsimp only); omega)))) (gw ?_)
    refine D.qY 9 rfl (Qt.add rfl rfl km) ?_
    refine D.qY 10 rfl (Qt.index uT cT rfl rfl ow (Has.blk hz0) (by simp only [zaa]; omega)) ?_
    refine D.qY 11 rfl (Qt.load rfl (Ld.sl (Has.blk hz0) oT (zak (by (try dsimp only); omega)))) ?_
    by_cases h51 : ltN e[first + root]! e[first + (2 * root + 1)]! = true
    ·refine D.c0 12 rfl J224 (fun w hw => zcr h51 w) (gw ?_)
     refine D.fi (gw ?_)
     refine dw ([21, 23], []) (gw ?_)
     refine D.qY 3 rfl (Qt.add rfl rfl km) (gw ?_)
     refine D.p 7 rfl (Qt.add rfl rfl km) (gw ?_)
     refine D.qY 11 rfl (Qt.add rfl rfl km) ?_
     refine D.qY 12 rfl (Qt.index uT cT rfl rfl ow (Has.blk hz0) (by simp only [zaa]; omega)) ?_
     refine D.qY 13 rfl (Qt.load rfl (Ld.sl (Has.blk hz0) oT (zak (by (try dsimp only); omega)))) (gw ?_)
     refine D.qY 17 rfl (Qt.add rfl rfl km) ?_
     refine D.qY 18 rfl (Qt.index uT cT rfl rfl ow (Has.blk hz0) (by simp only [zaa]; omega)) ?_
     refine D.qY 19 rfl (Qt.load rfl (Ld.sl (Has.blk hz0) oT (zak (by (try dsimp only); omega)))) ?_
     refine D.qY 20 rfl (Qt.index1 uT cT rfl rfl ow (Has.blk hz0) (by simp only [zaa]; omega)) ?_
     refine D.oN 21 rfl (OpV.storeE0 rfl cw cT rfl rfl (by simp only [zaa, Array.size_setIfInBounds]; omega) (zaE (by (try dsimp only); omega)) (sbk ?_))
     refine D.qY 22 rfl (Qt.index1 (i := first + (2 * root + 1)) uT cT rfl rfl ow (Has.blk hz0) (by simp only [zaa, Array.size_setIfInBounds]; omega)) ?_
     refine D.oN 23 rfl (OpV.storeE0 rfl cw cT rfl rfl (by simp only [zaa, Array.size_setIfInBounds]; omega) (zaE (by (try simp only [Array.size_setIfInBounds]); omega)) (sbk ?_))
     refine D.fi (gw ?_)
     refine ⟨((2 * root + 1), Go.Sort.swp e (first + root) (first + (2 * root + 1))), ?_, ?_, ⟨?_, ag⟩, sr⟩
     ·exact ⟨by dsimp only; omega, (Go.Sort.swp_size _ _ _).trans he, by dsimp only; rw [← hq, zeX h16 (by rw [hk]; exact h51), hk]⟩
     ·show _ < _; dsimp only; omega
     exact outs
    ·refine D.c0 12 rfl J224 (fun w hw => zcs h51 w) (gw ?_)
     refine D.fi (gw ?_)
     refine TC.ret ?_
     refine finQ.ret RVs.nil sr ?_
     rw [← hq, zeW h16 (by rw [hk]; exact h51)]
     exact ⟨rfl, rfl⟩
  ·refine D.fi (gw ?_)
   refine dw ([], []) ?_
   have hk : kid e hi first root = (2 * root + 1) := if_neg (fun hc => h20 hc.1)
   refine gw ?_
   refine D.qY 3 rfl (Qt.add rfl rfl km) ?_
   refine D.qY 4 rfl (Qt.index uT cT rfl rfl ow (Has.blk hz0) (by simp only [zaa]; omega)) ?_
   refine D.qY 5 rfl (Qt.load rfl (Ld.sl (Has.blk hz0) oT (zak (by (try dsimp only); omega)))) (gw ?_)
   refine D.qY 9 rfl (Qt.add rfl rfl km) ?_
   refine D.qY 10 rfl (Qt.index uT cT rfl rfl ow (Has.blk hz0) (by simp only [zaa]; omega)) ?_
   refine D.qY 11 rfl (Qt.load rfl (Ld.sl (Has.blk hz0) oT (zak (by (try dsimp only); omega)))) ?_
   by_cases h51 : ltN e[first + root]! e[first + (2 * root + 1)]! = true
   ·refine D.c0 12 rfl J224 (fun w hw => zcr h51 w) (gw ?_)
    refine D.fi (gw ?_)
    refine dw ([21, 23], []) (gw ?_)
    refine D.qY 3 rfl (Qt.add rfl rfl km) (gw ?_)
    refine D.p 7 rfl (Qt.add rfl rfl km) (gw ?_)
    refine D.qY 11 rfl (Qt.add rfl rfl km) ?_
    refine D.qY 12 rfl (Qt.index uT cT rfl rfl ow (Has.blk hz0) (by simp only [zaa]; omega)) ?_
    refine D.qY 13 rfl (Qt.load rfl (Ld.sl (Has.blk hz0) oT (zak (by (try dsimp only); omega)))) (gw ?_)
    refine D.qY 17 rfl (Qt.add rfl rfl km) ?_
    refine D.qY 18 rfl (Qt.index uT cT rfl rfl ow (Has.blk hz0) (by simp only [zaa]; omega)) ?_
    refine D.qY 19 rfl (Qt.load rfl (Ld.sl (Has.blk hz0) oT (zak (by (try dsimp only); omega)))) ?_
    refine D.qY 20 rfl (Qt.index1 uT cT rfl rfl ow (Has.blk hz0) (by simp only [zaa]; omega)) ?_
    refine D.oN 21 rfl (OpV.storeE0 rfl cw cT rfl rfl (by simp only [zaa, Array.size_setIfInBounds]; omega) (zaE (by (try dsimp only); omega)) (sbk ?_))
    refine D.qY 22 rfl (Qt.index1 (i := first + (2 * root + 1)) uT cT rfl rfl ow (Has.blk hz0) (by simp only [zaa, Array.size_setIfInBounds]; omega)) ?_
    refine D.oN 23 rfl (OpV.storeE0 rfl cw cT rfl rfl (by simp only [zaa, Array.size_setIfInBounds]; omega) (zaE (by (try simp only [Array.size_setIfInBounds]); omega)) (sbk ?_))
    refine D.fi (gw ?_)
    refine ⟨((2 * root + 1), Go.Sort.swp e (first + root) (first + (2 * root + 1))), ?_, ?_, ⟨?_, ag⟩, sr⟩
    ·exact ⟨by dsimp only; omega, (Go.Sort.swp_size _ _ _).trans he, by dsimp only; rw [← hq, zeX h16 (by rw [hk]; exact h51), hk]⟩
    ·show _ < _; dsimp only; omega
    exact outs
   ·refine D.c0 12 rfl J224 (fun w hw => zcs h51 w) (gw ?_)
    refine D.fi (gw ?_)
    refine TC.ret ?_
    refine finQ.ret RVs.nil sr ?_
    rw [← hq, zeW h16 (by rw [hk]; exact h51)]
    exact ⟨rfl, rfl⟩
theorem zpO (g n cp : Nat) (d : Array Nat) (r : List Value) (hn : d.size = n) (hm : n < 4294967296) (a b : Nat) (hab : a < b) (hb : b ≤ n) (w0 : World) (hL : Sat w0 [Blk g 40 (blkD (d) r)]) :
    Calls prog 219 #[.slice (some ⟨g, 0, none⟩) n cp, .int .i64 ((a : Nat) : Int), .int .i64 ((b : Nat) : Int)] w0 (Post w0 (fps [Blk g 40 (blkD (d) r)]) fun v L => v = .tuple #[] ∧ L = [Blk g 40 (blkD (Go.Sort.heapSort ltN d a b) r)]) := by
  refine Calls.of (L := [Blk g 40 (blkD (d) r)]) (n := 56) (rs := []) func219 rfl rfl rfl (Nat.le_of_ble_eq_true rfl) (hL) ?_
  refine TC.seq ?_
  refine TC.region ?_
  refine S.mv ?_
  refine S.as ?_
  refine S.nil ?_
  refine TC.seq ?_
  refine TC.region ?_
  refine S.as ?_
  refine S.nil ?_
  refine TC.seq ?_
  refine TC.region ?_
  refine S.mv ?_
  refine S.mv ?_
  refine S.r (Qt.sub rfl rfl ow km) ?_
  refine S.as ?_
  refine S.nil ?_
  refine TC.seq ?_
  refine TC.seq ?_
  refine TC.region ?_
  refine S.mv ?_
  refine S.r (Qt.sub (b := 1) rfl rfl ow km) ?_
  refine S.r (Qt.quo (b := 2) rfl rfl ow km) ?_
  refine S.as ?_
  refine S.nil ?_
  refine TC.block ?_
  refine TC.loop (γ := Nat × Array Nat) [18, 19, 22, 23, 24, 25, 26, 20, 21, 9] (fun q => [(9, .int .i64 (((q.1 : Nat) : Int) - 1))]) (fun q => [Blk g 40 (blkD q.2 r)]) (fun q => q.1 ≤ (b - a - 1) / 2 + 1 ∧ q.2.size = n ∧ Go.Sort.heapBuild ltN (b - a) a q.1 q.2 = Go.Sort.heapBuild ltN (b - a) a ((b - a - 1) / 2 + 1) d) (fun q => q.1) (((b - a - 1) / 2 + 1, d))
    ⟨Nat.le_refl _, hn, rfl⟩ ⟨Out.refl _ _, (List.forall_mem_cons.2 ⟨(by show Value.int .i64 _ = Value.int .i64 _; exact congrArg (Value.int .i64) (by dsimp only; omega)), (fun _ h => nomatch h)⟩)⟩ sr ?_
  rintro ⟨k, e⟩ u ⟨hk, he, hq⟩
  dsimp only at hk he hq
  show TC _ _ _ (puts [(9, .int .i64 (((k : Nat) : Int) - 1))] (scr _ u _)) [Blk g 40 (blkD (e) r)]
  refine TC.seq ?_
  refine TC.seq ?_
  refine TC.region ?_
  refine S.mv ?_
  refine S.dec rfl rfl (Qt.gei rfl rfl) (fun h19 => ?_) (fun h19 => ?_)
  · refine S.nil ?_
    refine S.if_t rfl ?_
    refine TC.skip ?_
    refine TC.seq ?_
    refine TC.block ?_
    refine TC.region ?_
    refine S.mv ?_
    refine S.r (Qt.as (v' := .int .i64 ((k - 1 : Nat) : Int)) (Qt.move cw) (congrArg (Value.int .i64) ow)) ?_
    refine S.mv ?_
    refine S.mv ?_
    refine S.o (OpV.con (Pre := [Blk g 40 (blkD (e) r)]) (R := _) J228 rfl pr (fun w hw => zj9 g n cp e r he hm (k - 1) (b - a) a ow ow w hw.sat.left) ?_)
    rintro v L' ⟨rfl, rfl⟩
    refine S.nil ?_
    refine TC.region ?_
    refine S.r (Qt.as (v' := .int .i64 ((k - 1 : Nat) : Int)) (Qt.move cw) (congrArg (Value.int .i64) ow)) ?_
    refine S.r (Qt.subi rfl rfl (IntWalk.i64_in _ ow)) ?_
    refine S.as ?_
    refine S.nil ?_
    refine ⟨(k - 1, Go.Sort.siftDown ltN (b - a) a (k - 1) e), ?_, ?_, ⟨?_, (List.forall_mem_cons.2 ⟨rfl, (fun _ h => nomatch h)⟩)⟩, sr⟩
    · exact ⟨by dsimp only; omega, (zjA _ _ _ _).trans he, (zsn ow).symm.trans hq⟩
    · show _ < _; dsimp only; omega
    repeat (first | exact Out.refl _ _ | refine Out.put rfl ?_ | refine Out.puts rfl ?_ | refine Out.scr ?_ | refine Out.scr' rfl ?_)
  · refine S.nil ?_
    refine S.if_f rfl ?_
    refine TC.exit ?_
    refine TC.seq ?_
    refine TC.region ?_
    refine S.mv ?_
    refine S.r (Qt.sub (b := 1) rfl rfl ow km) ?_
    refine S.as ?_
    refine S.nil ?_
    refine TC.block ?_
    refine TC.loop (γ := Nat × Array Nat) [29, 30, 33, 34, 35, 36, 37, 38, 39, 40, 41, 42, 43, 44, 45, 46, 47, 48, 49, 50, 51, 52, 53, 54, 55, 31, 32, 10] (fun q => [(10, .int .i64 (((q.1 : Nat) : Int) - 1))]) (fun q => [Blk g 40 (blkD q.2 r)]) (fun q => q.1 ≤ b - a ∧ q.2.size = n ∧ Go.Sort.heapPop ltN a q.1 q.2 = Go.Sort.heapSort ltN d a b) (fun q => q.1) ((b - a, e))
      ⟨Nat.le_refl _, he, by dsimp only; rw [Go.Sort.heapSort, ← hq, zso ow]⟩ ⟨Out.refl _ _, (List.forall_mem_cons.2 ⟨(by show Value.int .i64 _ = Value.int .i64 _; exact congrArg (Value.int .i64) (by dsimp only; omega)), (fun _ h => nomatch h)⟩)⟩ sr ?_
    rintro ⟨k, e⟩ u ⟨hk2, he2, hq2⟩
    dsimp only at hk2 he2 hq2
    show TC _ _ _ (puts [(10, .int .i64 (((k : Nat) : Int) - 1))] (scr _ u _)) [Blk g 40 (blkD (e) r)]
    refine TC.seq ?_
    refine TC.seq ?_
    refine TC.region ?_
    refine S.mv ?_
    refine S.dec rfl rfl (Qt.gei rfl rfl) (fun h30 => ?_) (fun h30 => ?_)
    · refine S.nil ?_
      refine S.if_t rfl ?_
      refine TC.skip ?_
      refine TC.seq ?_
      refine TC.block ?_
      refine TC.seq ?_
      refine dw ([17, 19], []) ?_
      refine D.qY 0 rfl (Qt.move cw) ?_
      refine D.qY 1 rfl (Qt.move cw) ?_
      refine D.p 2 rfl (Qt.move cw) ?_
      refine D.p 3 rfl (Qt.move cw) ?_
      refine D.p 4 rfl (Qt.as (v' := .int .i64 ((k - 1 : Nat) : Int)) (Qt.move cw) (congrArg (Value.int .i64) ow)) ?_
      refine D.p 5 rfl (Qt.add rfl rfl km) ?_
      refine D.qY 6 rfl (Qt.move cw) ?_
      refine D.qY 7 rfl (Qt.move cw) ?_
      refine D.qY 8 rfl (Qt.as (v' := .int .i64 ((k - 1 : Nat) : Int)) (Qt.move cw) (congrArg (Value.int .i64) ow)) ?_
      refine D.qY 9 rfl (Qt.add rfl rfl km) ?_
      refine D.qY 10 rfl (Qt.index uT cT rfl rfl ow (Has.blk hz0) (by simp only [zaa]; omega)) ?_
      refine D.qY 11 rfl (Qt.load rfl (Ld.sl (Has.blk hz0) oT (zak (by (try dsimp only); omega)))) ?_
      refine D.qY 12 rfl (Qt.move cw) ?_
      refine D.qY 13 rfl (Qt.move cw) ?_
      refine D.qY 14 rfl (Qt.index uT cT rfl rfl ow (Has.blk hz0) (by simp only [zaa]; omega)) ?_
      refine D.qY 15 rfl (Qt.load rfl (Ld.sl (Has.blk hz0) oT (zak (by (try dsimp only); omega)))) ?_
      refine D.qY 16 rfl (Qt.index1 uT cT rfl rfl ow (Has.blk hz0) (by simp only [zaa]; omega)) ?_
      refine D.opN (k := 17) sn rfl (by kernel_rfl) (by kernel_rfl) rfl (OpV.storeE0 rfl cw cT rfl rfl (by simp only [zaa, Array.size_setIfInBounds]; omega) (zaE (by (try dsimp only); omega)) ⟨sn, ?_⟩)
      refine D.qY 18 rfl (Qt.index1 (i := a + (k - 1)) uT cT rfl rfl ow (Has.blk hz0) (by simp only [zaa, Array.size_setIfInBounds]; omega)) ?_
      refine D.opN (k := 19) sn rfl (by kernel_rfl) (by kernel_rfl) rfl (OpV.storeE0 rfl cw cT rfl rfl (by simp only [zaa, Array.size_setIfInBounds]; omega) (zaE (by (try simp only [Array.size_setIfInBounds]); omega)) ⟨sn, ?_⟩)
      refine D.done sn (by kernel_rfl) ?_
      refine TC.region ?_
      refine S.mv ?_
      refine S.mv ?_
      refine S.r (Qt.as (v' := .int .i64 ((k - 1 : Nat) : Int)) (Qt.move cw) (congrArg (Value.int .i64) ow)) ?_
      refine S.mv ?_
      refine S.o (OpV.con (Pre := [Blk g 40 (blkD (Go.Sort.swp e a (a + (k - 1))) r)]) (R := _) J228 rfl pr (fun w hw => zj9 g n cp (Go.Sort.swp e a (a + (k - 1))) r ((Go.Sort.swp_size _ _ _).trans he2) hm 0 (k - 1) a ow ow w hw.sat.left) ?_)
      rintro v L' ⟨rfl, rfl⟩
      refine S.nil ?_
      refine TC.region ?_
      refine S.r (Qt.as (v' := .int .i64 ((k - 1 : Nat) : Int)) (Qt.move cw) (congrArg (Value.int .i64) ow)) ?_
      refine S.r (Qt.subi rfl rfl (IntWalk.i64_in _ ow)) ?_
      refine S.as ?_
      refine S.nil ?_
      refine ⟨(k - 1, Go.Sort.siftDown ltN (k - 1) a 0 (Go.Sort.swp e a (a + (k - 1)))), ?_, ?_, ⟨?_, (List.forall_mem_cons.2 ⟨rfl, (fun _ h => nomatch h)⟩)⟩, sr⟩
      · exact ⟨by dsimp only; omega, (zjA _ _ _ _).trans ((Go.Sort.swp_size _ _ _).trans he2), (zsp ow).symm.trans hq2⟩
      · show _ < _; dsimp only; omega
      repeat (first | exact Out.refl _ _ | refine Out.put rfl ?_ | refine Out.puts rfl ?_ | refine Out.scr ?_ | refine Out.scr' rfl ?_)
    · refine S.nil ?_
      refine S.if_f rfl ?_
      refine TC.exit ?_
      refine finQ.normal RVs.nil sr ?_
      rw [← hq2, zsq ow]
      exact ⟨rfl, rfl⟩
theorem zpP (g n cp : Nat) (d : Array Nat) (r : List Value) (hn : d.size = n) (hm : n < 4294967296) (a b pv : Nat) (hp1 : a ≤ pv) (hp2 : pv < b) (hb : b ≤ n) (w0 : World) (hL : Sat w0 [Blk g 40 (blkD (d) r)]) :
  Calls prog 226 #[.slice (some ⟨g, 0, none⟩) n cp, .int .i64 ((a : Nat) : Int), .int .i64 ((b : Nat) : Int), .int .i64 ((pv : Nat) : Int)] w0 (Post w0 (fps [Blk g 40 (blkD (d) r)]) fun v L => v = .tuple #[.int .i64 (((Go.Sort.partition ltN d a b pv).1 : Nat) : Int), .bool (Go.Sort.partition ltN d a b pv).2.1] ∧ L = [Blk g 40 (blkD ((Go.Sort.partition ltN d a b pv).2.2) r)]) := by
 refine cof (L := [Blk g 40 (blkD (d) r)]) 168 [.tmp 8, .tmp 9] func226 hL ?_
 refine gw ?_
 refine dw ([13, 15], []) (gw ?_)
 refine D.qY 6 rfl (Qt.index uT cT rfl rfl ow (Has.blk hz0) (by simp only [zaa]; omega)) ?_
 refine D.qY 7 rfl (Qt.load rfl (Ld.sl (Has.blk hz0) oT (zak (by (try dsimp only); omega)))) (gw ?_)
 refine D.qY 10 rfl (Qt.index uT cT rfl rfl ow (Has.blk hz0) (by simp only [zaa]; omega)) ?_
 refine D.qY 11 rfl (Qt.load rfl (Ld.sl (Has.blk hz0) oT (zak (by (try dsimp only); omega)))) ?_
 refine D.qY 12 rfl (Qt.index1 uT cT rfl rfl ow (Has.blk hz0) (by simp only [zaa]; omega)) ?_
 refine D.oN 13 rfl (OpV.storeE0 rfl cw cT rfl rfl (by simp only [zaa, Array.size_setIfInBounds]; omega) (zaE (by (try dsimp only); omega)) (sbk ?_))
 refine D.qY 14 rfl (Qt.index1 (i := pv) uT cT rfl rfl ow (Has.blk hz0) (by simp only [zaa, Array.size_setIfInBounds]; omega)) ?_
 refine D.oN 15 rfl (OpV.storeE0 rfl cw cT rfl rfl (by simp only [zaa, Array.size_setIfInBounds]; omega) (zaE (by (try simp only [Array.size_setIfInBounds]); omega)) (sbk ?_))
 refine D.fi (gw ?_)
 refine S.r (Qt.sub (b := 1) rfl rfl ow km) ?_
 refine S.as ?_
 refine S.as ?_
 refine S.nil ?_
 refine TC.cutseq (γ := Nat × Array Nat) [30, 31, 32, 33, 34, 35, 36, 37, 38, 39, 40, 41, 42, 43, 44, 45, 10] (fun q => [(10, .int .i64 ((q.1 : Nat) : Int))]) (fun q => [Blk g 40 (blkD q.2 r)]) (fun q => a + 1 ≤ q.1 ∧ q.1 ≤ b ∧ q.2.size = n ∧ q.2 = Go.Sort.swp d a pv ∧ upL q.2 a (b - 1) (a + 1) = q.1) ?_ ?_
 ·refine gw ?_
  refine TC.loop (γ := Nat × Array Nat) [30, 31, 32, 33, 34, 35, 36, 37, 38, 39, 40, 41, 42, 43, 44, 45, 10] (fun q => [(10, .int .i64 ((q.1 : Nat) : Int))]) (fun q => [Blk g 40 (blkD q.2 r)]) (fun q => a + 1 ≤ q.1 ∧ q.1 ≤ b ∧ q.2.size = n ∧ q.2 = Go.Sort.swp d a pv ∧ upL q.2 a (b - 1) q.1 = upL q.2 a (b - 1) (a + 1)) (fun q => b - q.1) ((a + 1, Go.Sort.swp d a pv))
   ⟨Nat.le_refl _, by dsimp only; omega, (Go.Sort.swp_size _ _ _).trans hn, rfl, rfl⟩ ⟨Out.refl _ _, ag⟩ sr ?_
  rintro ⟨i, e⟩ u ⟨hi, hib, he, hse, hui⟩
  dsimp only at hi hib he hse hui
  show TC _ _ _ (puts [(10, .int .i64 ((i : Nat) : Int))] (scr _ u _)) [Blk g 40 (blkD (e) r)]
  refine gw ?_
  refine dw ([], []) (gw ?_)
  refine D.decX (k := 2) rfl (by kernel_rfl) (by kernel_rfl) (by kernel_rfl) rfl rfl (Qt.le rfl rfl) (fun h32 => gw ?_) (fun h32 => gw ?_)
  ·refine D.gY 6 rfl rfl (Qt.index uT cT rfl rfl ow (Has.blk hz0) (by simp only [zaa]; omega)) ?_
   refine D.gY 7 rfl rfl (Qt.load rfl (Ld.sl (Has.blk hz0) oT (zak (by (try dsimp only); omega)))) (gw ?_)
   refine D.gY 10 rfl rfl (Qt.index uT cT rfl rfl ow (Has.blk hz0) (by simp only [zaa]; omega)) ?_
   refine D.gY 11 rfl rfl (Qt.load rfl (Ld.sl (Has.blk hz0) oT (zak (by (try dsimp only); omega)))) ?_
   by_cases h42 : ltN e[i]! e[a]! = true
   ·refine D.cg0 12 rfl rfl J224 (fun w hw => zcr h42 w) (gw ?_)
    refine D.fi (gw ?_)
    refine ⟨(i + 1, e), ?_, ?_, ⟨?_, ag⟩, sr⟩
    ·exact ⟨by dsimp only; omega, by dsimp only; omega, he, hse, (zl1 h32 h42).symm.trans hui⟩
    ·show _ < _; dsimp only; omega
    exact outs
   ·refine D.cg0 12 rfl rfl J224 (fun w hw => zcs h42 w) (gw ?_)
    refine D.fi (gw ?_)
    refine TC.exit ?_
    refine ⟨(i, e), ?_, ⟨?_, ag⟩, sr⟩
    ·exact ⟨hi, hib, he, hse, by rw [← hui, zjC (Bool.eq_false_iff.2 h42)]⟩
    exact outs
  ·refine D.fi (gw ?_)
   refine TC.exit ?_
   refine ⟨(i, e), ?_, ⟨?_, ag⟩, sr⟩
   ·exact ⟨hi, hib, he, hse, by rw [← hui, zjB h32]⟩
   exact outs
 ·rintro ⟨i, e⟩ u ⟨hi, hib, he, hse, hU⟩
  dsimp only at hi hib he hse hU
  show TC _ _ _ (puts [(10, .int .i64 ((i : Nat) : Int))] (scr _ u _)) [Blk g 40 (blkD (e) r)]
  refine TC.cutseq (γ := Nat) [46, 47, 48, 49, 50, 51, 52, 53, 54, 55, 56, 57, 58, 59, 60, 61, 62, 11] (fun j => [(11, .int .i64 ((j : Nat) : Int))]) (fun j => [Blk g 40 (blkD e r)]) (fun j => j ≤ (b - 1) ∧ i ≤ j + 1 ∧ dnL e a i (b - 1) = j) ?_ ?_
  ·refine gw ?_
   refine TC.loop (γ := Nat) [46, 47, 48, 49, 50, 51, 52, 53, 54, 55, 56, 57, 58, 59, 60, 61, 62, 11] (fun j => [(11, .int .i64 ((j : Nat) : Int))]) (fun _ => _) (fun j => j ≤ b - 1 ∧ i ≤ j + 1 ∧ dnL e a i j = dnL e a i (b - 1)) (fun j => j) (b - 1)
    ⟨Nat.le_refl _, by omega, rfl⟩ ⟨Out.refl _ _, ag⟩ sr ?_
   rintro j u ⟨hj, hij, hdj⟩
   refine gw ?_
   refine dw ([], []) (gw ?_)
   refine D.decX (k := 2) rfl (by kernel_rfl) (by kernel_rfl) (by kernel_rfl) rfl rfl (Qt.le rfl rfl) (fun h48 => gw ?_) (fun h48 => gw ?_)
   ·refine D.gY 6 rfl rfl (Qt.index uT cT rfl rfl ow (Has.blk hz0) (by simp only [zaa]; omega)) ?_
    refine D.gY 7 rfl rfl (Qt.load rfl (Ld.sl (Has.blk hz0) oT (zak (by (try dsimp only); omega)))) (gw ?_)
    refine D.gY 10 rfl rfl (Qt.index uT cT rfl rfl ow (Has.blk hz0) (by simp only [zaa]; omega)) ?_
    refine D.gY 11 rfl rfl (Qt.load rfl (Ld.sl (Has.blk hz0) oT (zak (by (try dsimp only); omega)))) ?_
    by_cases h58 : ltN e[j]! e[a]! = true
    ·refine D.cg0 12 rfl rfl J224 (fun w hw => zcr h58 w) (gw ?_)
     refine D.fi (gw ?_)
     refine TC.exit ?_
     refine ⟨j, ?_, ⟨?_, ag⟩, sr⟩
     ·exact ⟨hj, hij, by rw [← hdj, zjE (by rw [h58]; rfl)]⟩
     exact outs
    ·refine D.cg0 12 rfl rfl J224 (fun w hw => zcs h58 w) (gw ?_)
     refine D.fi (gw ?_)
     refine S.r (Qt.sub (b := 1) rfl rfl ow km) (gw ?_)
     refine ⟨j - 1, ?_, ?_, ⟨?_, ag⟩, sr⟩
     ·exact ⟨by omega, by omega, (zl2 h48 ow (by rw [Bool.eq_false_iff.2 h58]; rfl)).symm.trans hdj⟩
     ·show _ < _; dsimp only; omega
     exact outs
   ·refine D.fi (gw ?_)
    refine TC.exit ?_
    refine ⟨j, ?_, ⟨?_, ag⟩, sr⟩
    ·exact ⟨hj, hij, by rw [← hdj, zjD h48]⟩
    exact outs
  ·rintro j u ⟨hj, hij, hD⟩
   refine gw ?_
   refine S.dec rfl rfl (Qt.gt rfl rfl) (fun h65 => gw ?_) (fun h65 => gw ?_)
   ·refine dw ([13, 15], []) (gw ?_)
    refine D.qY 6 rfl (Qt.index uT cT rfl rfl ow (Has.blk hz0) (by simp only [zaa]; omega)) ?_
    refine D.qY 7 rfl (Qt.load rfl (Ld.sl (Has.blk hz0) oT (zak (by (try dsimp only); omega)))) (gw ?_)
    refine D.qY 10 rfl (Qt.index uT cT rfl rfl ow (Has.blk hz0) (by simp only [zaa]; omega)) ?_
    refine D.qY 11 rfl (Qt.load rfl (Ld.sl (Has.blk hz0) oT (zak (by (try dsimp only); omega)))) ?_
    refine D.qY 12 rfl (Qt.index1 uT cT rfl rfl ow (Has.blk hz0) (by simp only [zaa]; omega)) ?_
    refine D.oN 13 rfl (OpV.storeE0 rfl cw cT rfl rfl (by simp only [zaa, Array.size_setIfInBounds]; omega) (zaE (by (try dsimp only); omega)) (sbk ?_))
    refine D.qY 14 rfl (Qt.index1 (i := a) uT cT rfl rfl ow (Has.blk hz0) (by simp only [zaa, Array.size_setIfInBounds]; omega)) ?_
    refine D.oN 15 rfl (OpV.storeE0 rfl cw cT rfl rfl (by simp only [zaa, Array.size_setIfInBounds]; omega) (zaE (by (try simp only [Array.size_setIfInBounds]); omega)) (sbk ?_))
    refine D.fi (gw ?_)
    refine TC.ret (finQ.ret rv sr ?_)
    rw [zoO hse hU hD h65]
    exact ⟨rfl, rfl⟩
   ·refine dw ([13, 15], []) (gw ?_)
    refine D.qY 6 rfl (Qt.index uT cT rfl rfl ow (Has.blk hz0) (by simp only [zaa]; omega)) ?_
    refine D.qY 7 rfl (Qt.load rfl (Ld.sl (Has.blk hz0) oT (zak (by (try dsimp only); omega)))) (gw ?_)
    refine D.qY 10 rfl (Qt.index uT cT rfl rfl ow (Has.blk hz0) (by simp only [zaa]; omega)) ?_
    refine D.qY 11 rfl (Qt.load rfl (Ld.sl (Has.blk hz0) oT (zak (by (try dsimp only); omega)))) ?_
    refine D.qY 12 rfl (Qt.index1 uT cT rfl rfl ow (Has.blk hz0) (by simp only [zaa]; omega)) ?_
    refine D.oN 13 rfl (OpV.storeE0 rfl cw cT rfl rfl (by simp only [zaa, Array.size_setIfInBounds]; omega) (zaE (by (try dsimp only); omega)) (sbk ?_))
    refine D.qY 14 rfl (Qt.index1 (i := j) uT cT rfl rfl ow (Has.blk hz0) (by simp only [zaa, Array.size_setIfInBounds]; omega)) ?_
    refine D.oN 15 rfl (OpV.storeE0 rfl cw cT rfl rfl (by simp only [zaa, Array.size_setIfInBounds]; omega) (zaE (by (try simp only [Array.size_setIfInBounds]); omega)) (sbk ?_))
    refine D.fi (gw ?_)
    refine S.r (Qt.sub (b := 1) rfl rfl ow km) (gw ?_)
    refine TC.loop (γ := Nat × Nat × Array Nat) [99, 100, 101, 102, 103, 104, 105, 106, 107, 108, 109, 110, 111, 112, 113, 114, 10, 115, 116, 117, 118, 119, 120, 121, 122, 123, 124, 125, 126, 127, 128, 129, 130, 131, 11, 132, 133, 134, 135, 136, 137, 138, 139, 140, 141, 142, 143, 144, 145, 146, 147, 148, 149, 150, 151, 152] (fun q => [(10, .int .i64 ((q.1 : Nat) : Int)), (11, .int .i64 ((q.2.1 : Nat) : Int))]) (fun q => [Blk g 40 (blkD q.2.2 r)]) (fun q => a + 1 ≤ q.1 ∧ q.1 ≤ q.2.1 + 2 ∧ q.2.1 ≤ b - 1 ∧ q.2.2.size = n ∧ Go.Sort.partLoop ltN a q.1 q.2.1 q.2.2 = Go.Sort.partLoop ltN a (i + 1) (j - 1) (Go.Sort.swp e i j)) (fun q => q.2.1 + 2 - q.1) ((i + 1, j - 1, Go.Sort.swp e i j))
     ⟨by dsimp only; omega, by dsimp only; omega, by dsimp only; omega, (Go.Sort.swp_size _ _ _).trans he, rfl⟩ ⟨Out.refl _ _, ag⟩ sr ?_
    rintro ⟨i2, j2, f⟩ u ⟨hi2, hij2, hj2, hf, hq⟩
    dsimp only at hi2 hij2 hj2 hf hq
    show TC _ _ _ (puts [(10, .int .i64 ((i2 : Nat) : Int)), (11, .int .i64 ((j2 : Nat) : Int))] (scr _ u _)) [Blk g 40 (blkD (f) r)]
    refine TC.block ?_
    refine TC.cutseq (γ := Nat) [99, 100, 101, 102, 103, 104, 105, 106, 107, 108, 109, 110, 111, 112, 113, 114, 10] (fun k => [(10, .int .i64 ((k : Nat) : Int))]) (fun k => [Blk g 40 (blkD f r)]) (fun k => i2 ≤ k ∧ k ≤ j2 + 2 ∧ upL f a j2 i2 = k) ?_ ?_
    ·refine gw ?_
     refine TC.loop (γ := Nat) [99, 100, 101, 102, 103, 104, 105, 106, 107, 108, 109, 110, 111, 112, 113, 114, 10] (fun k => [(10, .int .i64 ((k : Nat) : Int))]) (fun _ => _) (fun k => i2 ≤ k ∧ k ≤ j2 + 2 ∧ upL f a j2 k = upL f a j2 i2) (fun k => j2 + 2 - k) (i2)
      ⟨Nat.le_refl _, by omega, rfl⟩ ⟨Out.refl _ _, ag⟩ sr ?_
     rintro k u ⟨hk, hkj, huk⟩
     refine gw ?_
     refine dw ([], []) (gw ?_)
     refine D.decX (k := 2) rfl (by kernel_rfl) (by kernel_rfl) (by kernel_rfl) rfl rfl (Qt.le rfl rfl) (fun h101 => gw ?_) (fun h101 => gw ?_)
     ·refine D.gY 6 rfl rfl (Qt.index uT cT rfl rfl ow (Has.blk hz0) (by simp only [zaa]; omega)) ?_
      refine D.gY 7 rfl rfl (Qt.load rfl (Ld.sl (Has.blk hz0) oT (zak (by (try dsimp only); omega)))) (gw ?_)
      refine D.gY 10 rfl rfl (Qt.index uT cT rfl rfl ow (Has.blk hz0) (by simp only [zaa]; omega)) ?_
      refine D.gY 11 rfl rfl (Qt.load rfl (Ld.sl (Has.blk hz0) oT (zak (by (try dsimp only); omega)))) ?_
      by_cases h111 : ltN f[k]! f[a]! = true
      ·refine D.cg0 12 rfl rfl J224 (fun w hw => zcr h111 w) (gw ?_)
       refine D.fi (gw ?_)
       refine ⟨k + 1, ?_, ?_, ⟨?_, ag⟩, sr⟩
       ·exact ⟨by omega, by omega, (zl1 h101 h111).symm.trans huk⟩
       ·show _ < _; dsimp only; omega
       exact outs
      ·refine D.cg0 12 rfl rfl J224 (fun w hw => zcs h111 w) (gw ?_)
       refine D.fi (gw ?_)
       refine TC.exit ?_
       refine ⟨k, ?_, ⟨?_, ag⟩, sr⟩
       ·exact ⟨hk, hkj, by rw [← huk, zjC (Bool.eq_false_iff.2 h111)]⟩
       exact outs
     ·refine D.fi (gw ?_)
      refine TC.exit ?_
      refine ⟨k, ?_, ⟨?_, ag⟩, sr⟩
      ·exact ⟨hk, hkj, by rw [← huk, zjB h101]⟩
      exact outs
    ·rintro k u ⟨hk, hkj, hU2⟩
     refine TC.cutseq (γ := Nat) [115, 116, 117, 118, 119, 120, 121, 122, 123, 124, 125, 126, 127, 128, 129, 130, 131, 11] (fun l => [(11, .int .i64 ((l : Nat) : Int))]) (fun l => [Blk g 40 (blkD f r)]) (fun l => l ≤ j2 ∧ k ≤ l + 2 ∧ dnL f a k j2 = l) ?_ ?_
     ·refine gw ?_
      refine TC.loop (γ := Nat) [115, 116, 117, 118, 119, 120, 121, 122, 123, 124, 125, 126, 127, 128, 129, 130, 131, 11] (fun l => [(11, .int .i64 ((l : Nat) : Int))]) (fun _ => _) (fun l => l ≤ j2 ∧ k ≤ l + 2 ∧ dnL f a k l = dnL f a k j2) (fun l => l) (j2)
       ⟨Nat.le_refl _, by omega, rfl⟩ ⟨Out.refl _ _, ag⟩ sr ?_
      rintro l u ⟨hl, hkl, hdl⟩
      refine gw ?_
      refine dw ([], []) (gw ?_)
      refine D.decX (k := 2) rfl (by kernel_rfl) (by kernel_rfl) (by kernel_rfl) rfl rfl (Qt.le rfl rfl) (fun h117 => gw ?_) (fun h117 => gw ?_)
      ·refine D.gY 6 rfl rfl (Qt.index uT cT rfl rfl ow (Has.blk hz0) (by simp only [zaa]; omega)) ?_
       refine D.gY 7 rfl rfl (Qt.load rfl (Ld.sl (Has.blk hz0) oT (zak (by (try dsimp only); omega)))) (gw ?_)
       refine D.gY 10 rfl rfl (Qt.index uT cT rfl rfl ow (Has.blk hz0) (by simp only [zaa]; omega)) ?_
       refine D.gY 11 rfl rfl (Qt.load rfl (Ld.sl (Has.blk hz0) oT (zak (by (try dsimp only); omega)))) ?_
       by_cases h127 : ltN f[l]! f[a]! = true
       ·refine D.cg0 12 rfl rfl J224 (fun w hw => zcr h127 w) (gw ?_)
        refine D.fi (gw ?_)
        refine TC.exit ?_
        refine ⟨l, ?_, ⟨?_, ag⟩, sr⟩
        ·exact ⟨hl, hkl, by rw [← hdl, zjE (by rw [h127]; rfl)]⟩
        exact outs
       ·refine D.cg0 12 rfl rfl J224 (fun w hw => zcs h127 w) (gw ?_)
        refine D.fi (gw ?_)
        refine S.r (Qt.sub (b := 1) rfl rfl ow km) (gw ?_)
        refine ⟨l - 1, ?_, ?_, ⟨?_, ag⟩, sr⟩
        ·exact ⟨by omega, by omega, (zl2 h117 ow (by rw [Bool.eq_false_iff.2 h127]; rfl)).symm.trans hdl⟩
        ·show _ < _; dsimp only; omega
        exact outs
      ·refine D.fi (gw ?_)
       refine TC.exit ?_
       refine ⟨l, ?_, ⟨?_, ag⟩, sr⟩
       ·exact ⟨hl, hkl, by rw [← hdl, zjD h117]⟩
       exact outs
     ·rintro l u ⟨hl, hkl, hD2⟩
      refine gw ?_
      refine S.dec rfl rfl (Qt.gt rfl rfl) (fun h134 => gw ?_) (fun h134 => gw ?_)
      ·refine TC.exit (TC.seq (dw ([13, 15], []) (gw ?_)))
       refine D.qY 6 rfl (Qt.index uT cT rfl rfl ow (Has.blk hz0) (by simp only [zaa]; omega)) ?_
       refine D.qY 7 rfl (Qt.load rfl (Ld.sl (Has.blk hz0) oT (zak (by (try dsimp only); omega)))) (gw ?_)
       refine D.qY 10 rfl (Qt.index uT cT rfl rfl ow (Has.blk hz0) (by simp only [zaa]; omega)) ?_
       refine D.qY 11 rfl (Qt.load rfl (Ld.sl (Has.blk hz0) oT (zak (by (try dsimp only); omega)))) ?_
       refine D.qY 12 rfl (Qt.index1 uT cT rfl rfl ow (Has.blk hz0) (by simp only [zaa]; omega)) ?_
       refine D.oN 13 rfl (OpV.storeE0 rfl cw cT rfl rfl (by simp only [zaa, Array.size_setIfInBounds]; omega) (zaE (by (try dsimp only); omega)) (sbk ?_))
       refine D.qY 14 rfl (Qt.index1 (i := a) uT cT rfl rfl ow (Has.blk hz0) (by simp only [zaa, Array.size_setIfInBounds]; omega)) ?_
       refine D.oN 15 rfl (OpV.storeE0 rfl cw cT rfl rfl (by simp only [zaa, Array.size_setIfInBounds]; omega) (zaE (by (try simp only [Array.size_setIfInBounds]); omega)) (sbk ?_))
       refine D.fi (gw ?_)
       refine TC.ret (finQ.ret rv sr ?_)
       rw [zsv hse hU hD h65 (hq.symm.trans (zsr hU2 hD2 h134))]
       exact ⟨rfl, rfl⟩
      ·refine dw ([13, 15], []) (gw ?_)
       refine D.qY 6 rfl (Qt.index uT cT rfl rfl ow (Has.blk hz0) (by simp only [zaa]; omega)) ?_
       refine D.qY 7 rfl (Qt.load rfl (Ld.sl (Has.blk hz0) oT (zak (by (try dsimp only); omega)))) (gw ?_)
       refine D.qY 10 rfl (Qt.index uT cT rfl rfl ow (Has.blk hz0) (by simp only [zaa]; omega)) ?_
       refine D.qY 11 rfl (Qt.load rfl (Ld.sl (Has.blk hz0) oT (zak (by (try dsimp only); omega)))) ?_
       refine D.qY 12 rfl (Qt.index1 uT cT rfl rfl ow (Has.blk hz0) (by simp only [zaa]; omega)) ?_
       refine D.oN 13 rfl (OpV.storeE0 rfl cw cT rfl rfl (by simp only [zaa, Array.size_setIfInBounds]; omega) (zaE (by (try dsimp only); omega)) (sbk ?_))
       refine D.qY 14 rfl (Qt.index1 (i := l) uT cT rfl rfl ow (Has.blk hz0) (by simp only [zaa, Array.size_setIfInBounds]; omega)) ?_
       refine D.oN 15 rfl (OpV.storeE0 rfl cw cT rfl rfl (by simp only [zaa, Array.size_setIfInBounds]; omega) (zaE (by (try simp only [Array.size_setIfInBounds]); omega)) (sbk ?_))
       refine D.fi (gw ?_)
       refine S.r (Qt.sub (b := 1) rfl rfl ow km) (gw ?_)
       refine ⟨(k + 1, l - 1, Go.Sort.swp f k l), ?_, ?_, ⟨?_, ag⟩, sr⟩
       ·exact ⟨by dsimp only; omega, by dsimp only; omega, by dsimp only; omega, (Go.Sort.swp_size _ _ _).trans hf, (zss hU2 hD2 h134).symm.trans hq⟩
       ·show _ < _; dsimp only; omega
       exact outs
theorem zll (g n cp : Nat) (d : Array Nat) (r : List Value) (hn : d.size = n) (hm : n < 4294967296) (a b pv : Nat) (hp1 : a ≤ pv) (hp2 : pv < b) (hb : b ≤ n) (w0 : World) (hL : Sat w0 [Blk g 40 (blkD (d) r)]) :
  Calls prog 225 #[.slice (some ⟨g, 0, none⟩) n cp, .int .i64 ((a : Nat) : Int), .int .i64 ((b : Nat) : Int), .int .i64 ((pv : Nat) : Int)] w0 (Post w0 (fps [Blk g 40 (blkD (d) r)]) fun v L => v = .int .i64 (((Go.Sort.partitionEqual ltN d a b pv).1 : Nat) : Int) ∧ L = [Blk g 40 (blkD ((Go.Sort.partitionEqual ltN d a b pv).2) r)]) := by
 refine cof (L := [Blk g 40 (blkD (d) r)]) 84 [.tmp 8] func225 hL ?_
 refine gw ?_
 refine dw ([13, 15], []) (gw ?_)
 refine D.qY 6 rfl (Qt.index uT cT rfl rfl ow (Has.blk hz0) (by simp only [zaa]; omega)) ?_
 refine D.qY 7 rfl (Qt.load rfl (Ld.sl (Has.blk hz0) oT (zak (by (try dsimp only); omega)))) (gw ?_)
 refine D.qY 10 rfl (Qt.index uT cT rfl rfl ow (Has.blk hz0) (by simp only [zaa]; omega)) ?_
 refine D.qY 11 rfl (Qt.load rfl (Ld.sl (Has.blk hz0) oT (zak (by (try dsimp only); omega)))) ?_
 refine D.qY 12 rfl (Qt.index1 uT cT rfl rfl ow (Has.blk hz0) (by simp only [zaa]; omega)) ?_
 refine D.oN 13 rfl (OpV.storeE0 rfl cw cT rfl rfl (by simp only [zaa, Array.size_setIfInBounds]; omega) (zaE (by (try dsimp only); omega)) (sbk ?_))
 refine D.qY 14 rfl (Qt.index1 (i := pv) uT cT rfl rfl ow (Has.blk hz0) (by simp only [zaa, Array.size_setIfInBounds]; omega)) ?_
 refine D.oN 15 rfl (OpV.storeE0 rfl cw cT rfl rfl (by simp only [zaa, Array.size_setIfInBounds]; omega) (zaE (by (try simp only [Array.size_setIfInBounds]); omega)) (sbk ?_))
 refine D.fi (gw ?_)
 refine S.r (Qt.sub (b := 1) rfl rfl ow km) (gw ?_)
 refine TC.loop (γ := Nat × Nat × Array Nat) [29, 30, 31, 32, 33, 34, 35, 36, 37, 38, 39, 40, 41, 42, 43, 44, 45, 9, 46, 47, 48, 49, 50, 51, 52, 53, 54, 55, 56, 57, 58, 59, 60, 61, 10, 62, 63, 64, 65, 66, 67, 68, 69, 70, 71, 72, 73, 74, 75, 76, 77, 78, 79, 80, 81, 82] (fun q => [(9, .int .i64 ((q.1 : Nat) : Int)), (10, .int .i64 ((q.2.1 : Nat) : Int))]) (fun q => [Blk g 40 (blkD q.2.2 r)]) (fun q => a + 1 ≤ q.1 ∧ q.1 ≤ q.2.1 + 2 ∧ q.2.1 ≤ b - 1 ∧ q.2.2.size = n ∧ Go.Sort.partEqLoop ltN a q.1 q.2.1 q.2.2 = (Go.Sort.partitionEqual ltN d a b pv)) (fun q => q.2.1 + 2 - q.1) ((a + 1, b - 1, Go.Sort.swp d a pv))
  ⟨Nat.le_refl _, by dsimp only; omega, Nat.le_refl _, (Go.Sort.swp_size _ _ _).trans hn, rfl⟩ ⟨Out.refl _ _, ag⟩ sr ?_
 rintro ⟨i2, j2, f⟩ u ⟨hi2, hij2, hj2, hf, hq⟩
 dsimp only at hi2 hij2 hj2 hf hq
 show TC _ _ _ (puts [(9, .int .i64 ((i2 : Nat) : Int)), (10, .int .i64 ((j2 : Nat) : Int))] (scr _ u _)) [Blk g 40 (blkD (f) r)]
 refine TC.block ?_
 refine TC.cutseq (γ := Nat) [29, 30, 31, 32, 33, 34, 35, 36, 37, 38, 39, 40, 41, 42, 43, 44, 45, 9] (fun k => [(9, .int .i64 ((k : Nat) : Int))]) (fun k => [Blk g 40 (blkD f r)]) (fun k => i2 ≤ k ∧ k ≤ j2 + 2 ∧ upE f a j2 i2 = k) ?_ ?_
 ·refine gw ?_
  refine TC.loop (γ := Nat) [29, 30, 31, 32, 33, 34, 35, 36, 37, 38, 39, 40, 41, 42, 43, 44, 45, 9] (fun k => [(9, .int .i64 ((k : Nat) : Int))]) (fun _ => _) (fun k => i2 ≤ k ∧ k ≤ j2 + 2 ∧ upE f a j2 k = upE f a j2 i2) (fun k => j2 + 2 - k) (i2)
   ⟨Nat.le_refl _, by omega, rfl⟩ ⟨Out.refl _ _, ag⟩ sr ?_
  rintro k u ⟨hk, hkj, huk⟩
  refine gw ?_
  refine dw ([], []) (gw ?_)
  refine D.decX (k := 2) rfl (by kernel_rfl) (by kernel_rfl) (by kernel_rfl) rfl rfl (Qt.le rfl rfl) (fun h31 => gw ?_) (fun h31 => gw ?_)
  ·refine D.gY 6 rfl rfl (Qt.index uT cT rfl rfl ow (Has.blk hz0) (by simp only [zaa]; omega)) ?_
   refine D.gY 7 rfl rfl (Qt.load rfl (Ld.sl (Has.blk hz0) oT (zak (by (try dsimp only); omega)))) (gw ?_)
   refine D.gY 10 rfl rfl (Qt.index uT cT rfl rfl ow (Has.blk hz0) (by simp only [zaa]; omega)) ?_
   refine D.gY 11 rfl rfl (Qt.load rfl (Ld.sl (Has.blk hz0) oT (zak (by (try dsimp only); omega)))) ?_
   by_cases h41 : ltN f[a]! f[k]! = true
   ·refine D.cg0 12 rfl rfl J224 (fun w hw => zcr h41 w) (gw ?_)
    refine D.fi (gw ?_)
    refine TC.exit ?_
    refine ⟨k, ?_, ⟨?_, ag⟩, sr⟩
    ·exact ⟨hk, hkj, by rw [← huk, zoL (by rw [h41]; rfl)]⟩
    exact outs
   ·refine D.cg0 12 rfl rfl J224 (fun w hw => zcs h41 w) (gw ?_)
    refine D.fi (gw ?_)
    refine ⟨k + 1, ?_, ?_, ⟨?_, ag⟩, sr⟩
    ·exact ⟨by omega, by omega, (zqS h31 (by rw [Bool.eq_false_iff.2 h41]; rfl)).symm.trans huk⟩
    ·show _ < _; dsimp only; omega
    exact outs
  ·refine D.fi (gw ?_)
   refine TC.exit ?_
   refine ⟨k, ?_, ⟨?_, ag⟩, sr⟩
   ·exact ⟨hk, hkj, by rw [← huk, zoK h31]⟩
   exact outs
 ·rintro k u ⟨hk, hkj, hU2⟩
  refine TC.cutseq (γ := Nat) [46, 47, 48, 49, 50, 51, 52, 53, 54, 55, 56, 57, 58, 59, 60, 61, 10] (fun l => [(10, .int .i64 ((l : Nat) : Int))]) (fun l => [Blk g 40 (blkD f r)]) (fun l => l ≤ j2 ∧ k ≤ l + 2 ∧ dnE f a k j2 = l) ?_ ?_
  ·refine gw ?_
   refine TC.loop (γ := Nat) [46, 47, 48, 49, 50, 51, 52, 53, 54, 55, 56, 57, 58, 59, 60, 61, 10] (fun l => [(10, .int .i64 ((l : Nat) : Int))]) (fun _ => _) (fun l => l ≤ j2 ∧ k ≤ l + 2 ∧ dnE f a k l = dnE f a k j2) (fun l => l) (j2)
    ⟨Nat.le_refl _, by omega, rfl⟩ ⟨Out.refl _ _, ag⟩ sr ?_
   rintro l u ⟨hl, hkl, hdl⟩
   refine gw ?_
   refine dw ([], []) (gw ?_)
   refine D.decX (k := 2) rfl (by kernel_rfl) (by kernel_rfl) (by kernel_rfl) rfl rfl (Qt.le rfl rfl) (fun h48 => gw ?_) (fun h48 => gw ?_)
   ·refine D.gY 6 rfl rfl (Qt.index uT cT rfl rfl ow (Has.blk hz0) (by simp only [zaa]; omega)) ?_
    refine D.gY 7 rfl rfl (Qt.load rfl (Ld.sl (Has.blk hz0) oT (zak (by (try dsimp only); omega)))) (gw ?_)
    refine D.gY 10 rfl rfl (Qt.index uT cT rfl rfl ow (Has.blk hz0) (by simp only [zaa]; omega)) ?_
    refine D.gY 11 rfl rfl (Qt.load rfl (Ld.sl (Has.blk hz0) oT (zak (by (try dsimp only); omega)))) ?_
    by_cases h58 : ltN f[a]! f[l]! = true
    ·refine D.cg0 12 rfl rfl J224 (fun w hw => zcr h58 w) (gw ?_)
     refine D.fi (gw ?_)
     refine S.r (Qt.sub (b := 1) rfl rfl ow km) (gw ?_)
     refine ⟨l - 1, ?_, ?_, ⟨?_, ag⟩, sr⟩
     ·exact ⟨by omega, by omega, (zqT h48 ow h58).symm.trans hdl⟩
     ·show _ < _; dsimp only; omega
     exact outs
    ·refine D.cg0 12 rfl rfl J224 (fun w hw => zcs h58 w) (gw ?_)
     refine D.fi (gw ?_)
     refine TC.exit ?_
     refine ⟨l, ?_, ⟨?_, ag⟩, sr⟩
     ·exact ⟨hl, hkl, by rw [← hdl, zoN (Bool.eq_false_iff.2 h58)]⟩
     exact outs
   ·refine D.fi (gw ?_)
    refine TC.exit ?_
    refine ⟨l, ?_, ⟨?_, ag⟩, sr⟩
    ·exact ⟨hl, hkl, by rw [← hdl, zoM h48]⟩
    exact outs
  ·rintro l u ⟨hl, hkl, hD2⟩
   refine gw ?_
   refine S.dec rfl rfl (Qt.gt rfl rfl) (fun h64 => gw ?_) (fun h64 => gw ?_)
   ·refine TC.exit (TC.seq (gw ?_))
    refine TC.ret (finQ.ret rv sr ?_)
    rw [← hq, zst hU2 hD2 h64]
    exact ⟨rfl, rfl⟩
   ·refine dw ([13, 15], []) (gw ?_)
    refine D.qY 6 rfl (Qt.index uT cT rfl rfl ow (Has.blk hz0) (by simp only [zaa]; omega)) ?_
    refine D.qY 7 rfl (Qt.load rfl (Ld.sl (Has.blk hz0) oT (zak (by (try dsimp only); omega)))) (gw ?_)
    refine D.qY 10 rfl (Qt.index uT cT rfl rfl ow (Has.blk hz0) (by simp only [zaa]; omega)) ?_
    refine D.qY 11 rfl (Qt.load rfl (Ld.sl (Has.blk hz0) oT (zak (by (try dsimp only); omega)))) ?_
    refine D.qY 12 rfl (Qt.index1 uT cT rfl rfl ow (Has.blk hz0) (by simp only [zaa]; omega)) ?_
    refine D.oN 13 rfl (OpV.storeE0 rfl cw cT rfl rfl (by simp only [zaa, Array.size_setIfInBounds]; omega) (zaE (by (try dsimp only); omega)) (sbk ?_))
    refine D.qY 14 rfl (Qt.index1 (i := l) uT cT rfl rfl ow (Has.blk hz0) (by simp only [zaa, Array.size_setIfInBounds]; omega)) ?_
    refine D.oN 15 rfl (OpV.storeE0 rfl cw cT rfl rfl (by simp only [zaa, Array.size_setIfInBounds]; omega) (zaE (by (try simp only [Array.size_setIfInBounds]); omega)) (sbk ?_))
    refine D.fi (gw ?_)
    refine S.r (Qt.sub (b := 1) rfl rfl ow km) (gw ?_)
    refine ⟨(k + 1, l - 1, Go.Sort.swp f k l), ?_, ?_, ⟨?_, ag⟩, sr⟩
    ·exact ⟨by dsimp only; omega, by dsimp only; omega, by dsimp only; omega, (Go.Sort.swp_size _ _ _).trans hf, (zsu hU2 hD2 h64).symm.trans hq⟩
    ·show _ < _; dsimp only; omega
    exact outs
end Go.Proofs.YtgdjcmehlhebdaaGreatDoor
