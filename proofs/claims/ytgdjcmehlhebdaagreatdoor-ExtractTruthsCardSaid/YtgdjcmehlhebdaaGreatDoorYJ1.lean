/- Facts of the table that the turned walks need -/
import Derived.Test.YtgdjcmehlhebdaaGreatDoorYW
set_option maxHeartbeats 25600000
set_option linter.all false
namespace Go.Proofs.YtgdjcmehlhebdaaGreatDoor
open _root_.Go.Proofs.Tryz
open Go.E
set_option maxRecDepth 4000
theorem J102 : p8 prog 102 := ⟨_, func102, by kernel_rfl, rfl⟩
theorem J194 : p8 prog 194 := ⟨_, func194, by kernel_rfl, rfl⟩
theorem J207 : p8 prog 207 := ⟨_, func207, by kernel_rfl, rfl⟩
theorem J228 : p8 prog 228 := ⟨_, func228, by kernel_rfl, rfl⟩
theorem J229 : p8 prog 229 := ⟨_, func229, by kernel_rfl, rfl⟩
theorem J230 : p8 prog 230 := ⟨_, func230, by kernel_rfl, rfl⟩
theorem JD {n a b k : Nat} {d : Array Nat} (ha : a < n) (hb : b < n) : (Go.Sort.order2 v5 d a b k).1 < n ∧ (Go.Sort.order2 v5 d a b k).2.1 < n ∧ (Go.Sort.order2 v5 d a b k).2.2 ≤ k + 1 := by
 by_cases h : v5 d[b]! d[a]! = true
 ·rw [LW h]; exact ⟨hb, ha, Nat.le_refl _⟩
 ·rw [LV h]; exact ⟨ha, hb, Nat.le_succ _⟩
theorem zju {n a b e k : Nat} {d : Array Nat} (ha : a < n) (hb : b < n) (he : e < n) : (Go.Sort.median v5 d a b e k).1 < n ∧ (Go.Sort.median v5 d a b e k).2 ≤ k + 3 := by
 refine ⟨?_, Go.Sort.median_count v5 d a b e k⟩
 rcases Go.Sort.median_mem v5 d a b e k with h | h | h <;> rw [h] <;> assumption
theorem FT {n a k : Nat} {d : Array Nat} (h1 : 1 ≤ a) (h : a + 1 < n) : (Go.Sort.medianAdjacent v5 d a k).1 < n ∧ (Go.Sort.medianAdjacent v5 d a k).2 ≤ k + 3 := zju ow ow h
theorem ziv (x : Nat) (w0) : cR 233 #[uI x] w0 (.bool false) := by
 refine cQ (co 6 [.tmp 2] func233 ?_)
 refine gw ?_
 refine e6 (Qt.dF (C7 rfl rfl) (fun h => h rfl)) (gw ?_)
 exact tR
theorem JB (x y : Nat) (w0) : cR 224 #[uI x, uI y] w0 (.bool (v5 x y)) := by
 refine cQ (co 17 [.tmp 4] func224 ?_)
 refine gw ?_
 refine u7 en (fun w hw => ziv x w) (gw ?_)
 refine D9 rfl rfl rfl (p9 rfl rfl) (fun h15 => gw ?_) (fun h15 => gw ?_)
 ·refine a9 (fR ?_)
  exact ⟨by rw [v5]; simp [h15]; rfl, rfl⟩
 ·refine a9 (fR ?_)
  exact ⟨by rw [v5]; simp [h15]; rfl, rfl⟩
theorem aN {x y : Nat} (h : v5 x y = true) (w0) : cR 224 #[uI x, uI y] w0 (.bool true) := h ▸ JB x y w0
theorem aM {x y : Nat} (h : ¬ v5 x y = true) (w0) : cR 224 #[uI x, uI y] w0 (.bool false) := Bool.eq_false_iff.2 h ▸ JB x y w0
theorem kP (g n cp : Nat) (d : Array Nat) (r : List Value) (hn : d.size = n) (hm : n < 4294967296) (s k : Nat) (hk : k ≤ 100) (a b : Nat) (ha : a < n) (hb : b < n) (w0) (hL : Sat w0 [Blk g 40 (w7 (d) r), Blk s 3 [iI k]]) :
  Calls prog 234 #[sL (some ⟨g, 0, none⟩) n cp, iI a, iI b, pZ s] w0 (D0 w0 (A8 [Blk g 40 (w7 (d) r), Blk s 3 [iI k]]) fun v L => v = .tuple #[iI ↑((Go.Sort.order2 v5 d a b k).1), iI ↑((Go.Sort.order2 v5 d a b k).2.1)] ∧ L = [Blk g 40 (w7 (d) r), Blk s 3 [iI ↑((Go.Sort.order2 v5 d a b k).2.2)]]) := by
 refine gW (L := [Blk g 40 (w7 (d) r), Blk s 3 [iI k]]) 28 [.tmp 8, .tmp 9] func234 hL ?_
 refine gw ?_
 refine dw ([], []) (gw ?_)
 refine c6 2 rfl (iB rfl rfl) (c6 3 rfl (lB rfl) (gw ?_))
 refine c6 6 rfl (iB rfl rfl) (c6 7 rfl (lB rfl) ?_)
 by_cases h18 : v5 d[b]! d[a]! = true
 ·refine I7 8 rfl en (fun w hw => aN h18 w) (p7 (gw ?_))
  refine j9 rfl (F9 rfl cw (by exact ce3) (by rfl) (by rfl) (gw ?_))
  refine a9 (finQ.ret rv sr ?_)
  rw [LW h18]; exact ⟨rfl, rfl⟩
 ·refine I7 8 rfl en (fun w hw => aM h18 w) (p7 (gw ?_))
  refine a9 (finQ.ret rv sr ?_)
  rw [LV h18]; exact ⟨rfl, rfl⟩
theorem kK (g n cp : Nat) (d : Array Nat) (r : List Value) (hn : d.size = n) (hm : n < 4294967296) (s k : Nat) (hk : k ≤ 90) (a b e : Nat) (ha : a < n) (hb : b < n) (he : e < n) (w0) (hL : Sat w0 [Blk g 40 (w7 (d) r), Blk s 3 [iI k]]) :
  Calls prog 232 #[sL (some ⟨g, 0, none⟩) n cp, iI a, iI b, iI e, pZ s] w0 (D0 w0 (A8 [Blk g 40 (w7 (d) r), Blk s 3 [iI k]]) fun v L => v = iI ↑((Go.Sort.median v5 d a b e k).1) ∧ L = [Blk g 40 (w7 (d) r), Blk s 3 [iI ↑((Go.Sort.median v5 d a b e k).2)]]) := by
 refine gW (L := [Blk g 40 (w7 (d) r), Blk s 3 [iI k]]) 36 [.tmp 10] func232 hL ?_
 have m1 := JD (d := d) (k := k) ha hb
 have m2 := JD (d := d) (k := (Go.Sort.order2 v5 d a b k).2.2) m1.2.1 he
 have m3 := JD (d := d) (k := (Go.Sort.order2 v5 d (Go.Sort.order2 v5 d a b k).2.1 e (Go.Sort.order2 v5 d a b k).2.2).2.2) m1.1 m2.1
 refine gw ?_
 refine z7 (l8 (Pre := [Blk g 40 (w7 (d) r), Blk s 3 [iI k]]) (R := _) en rfl pr (fun w hw => kP g n cp d r hn hm s (k) ow (a) (b) ow ow w hw.sat.left) ?_)
 rintro v L' ⟨rfl, rfl⟩
 refine gw ?_
 refine z7 (l8 (Pre := [Blk g 40 (w7 (d) r), Blk s 3 [iI ↑((Go.Sort.order2 v5 d a b k).2.2)]]) (R := _) en rfl pr (fun w hw => kP g n cp d r hn hm s ((Go.Sort.order2 v5 d a b k).2.2) ow ((Go.Sort.order2 v5 d a b k).2.1) (e) ow ow w hw.sat.left) ?_)
 rintro v L' ⟨rfl, rfl⟩
 refine gw ?_
 refine z7 (l8 (Pre := [Blk g 40 (w7 (d) r), Blk s 3 [iI ↑((Go.Sort.order2 v5 d (Go.Sort.order2 v5 d a b k).2.1 e (Go.Sort.order2 v5 d a b k).2.2).2.2)]]) (R := _) en rfl pr (fun w hw => kP g n cp d r hn hm s ((Go.Sort.order2 v5 d (Go.Sort.order2 v5 d a b k).2.1 e (Go.Sort.order2 v5 d a b k).2.2).2.2) ow ((Go.Sort.order2 v5 d a b k).1) ((Go.Sort.order2 v5 d (Go.Sort.order2 v5 d a b k).2.1 e (Go.Sort.order2 v5 d a b k).2.2).1) ow ow w hw.sat.left) ?_)
 rintro v L' ⟨rfl, rfl⟩
 refine gw ?_
 refine a9 (finQ.ret rv sr ?_)
 exact rr
theorem qO (g n cp : Nat) (d : Array Nat) (r : List Value) (hn : d.size = n) (hm : n < 4294967296) (s k : Nat) (hk : k ≤ 90) (a : Nat) (h1 : 1 ≤ a) (ha : a + 1 < n) (w0) (hL : Sat w0 [Blk g 40 (w7 (d) r), Blk s 3 [iI k]]) :
  Calls prog 231 #[sL (some ⟨g, 0, none⟩) n cp, iI a, pZ s] w0 (D0 w0 (A8 [Blk g 40 (w7 (d) r), Blk s 3 [iI k]]) fun v L => v = iI ↑((Go.Sort.medianAdjacent v5 d a k).1) ∧ L = [Blk g 40 (w7 (d) r), Blk s 3 [iI ↑((Go.Sort.medianAdjacent v5 d a k).2)]]) := by
 refine gW (L := [Blk g 40 (w7 (d) r), Blk s 3 [iI k]]) 15 [.tmp 6] func231 hL ?_
 refine gw ?_
 refine e6 (o7 (b := 1) rfl rfl ow km) (gw ?_)
 refine z7 (l8 (Pre := [Blk g 40 (w7 (d) r), Blk s 3 [iI k]]) (R := _) en rfl pr (fun w hw => kK g n cp d r hn hm s k hk (a - 1) a (a + 1) ow ow ha w hw.sat.left) ?_)
 rintro v L' ⟨rfl, rfl⟩
 refine gw ?_
 refine a9 (finQ.ret rv sr ?_)
 exact rr
theorem zd2 (g n cp : Nat) (d : Array Nat) (r : List Value) (hn : d.size = n) (hm : n < 4294967296) (a b : Nat) (hab : a < b) (hb : b ≤ n) (w0) (hL : Sat w0 [Blk g 40 (w7 (d) r)]) :
  Calls prog 221 #[sL (some ⟨g, 0, none⟩) n cp, iI a, iI b] w0 (D0 w0 (A8 [Blk g 40 (w7 (d) r)]) fun v L => v = .tuple #[iI ↑((Go.Sort.choosePivot v5 d a b).1), iI (Go.Sort.hintCode (Go.Sort.choosePivot v5 d a b).2)] ∧ L = [Blk g 40 (w7 (d) r)]) := by
 refine gW (L := [Blk g 40 (w7 (d) r)]) 57 [.tmp 6, .tmp 7] func221 hL ?_
 have p4q : (b - a) / 4 * 3 ≤ b - a := by omega
 refine gw ?_
 refine e6 (o7 rfl rfl ow km) (gw ?_)
 intro b9
 refine gw ?_
 refine e6 (I2 (b := 4) rfl rfl ow km) (e6 (F3 (b := 1) rfl rfl km) (e6 (v4 rfl rfl km) (gw ?_)))
 refine e6 (I2 (b := 4) rfl rfl ow km) (e6 (F3 (b := 2) rfl rfl km) (e6 (v4 rfl rfl km) (gw ?_)))
 refine e6 (I2 (b := 4) rfl rfl ow km) (e6 (F3 (b := 3) rfl rfl km) (e6 (v4 rfl rfl km) (gw ?_)))
 refine j0 rfl rfl (T0 (b := 8) rfl rfl) (fun h32 => gw ?_) (fun h32 => gw ?_)
 ·refine j0 rfl rfl (T0 (b := 50) rfl rfl) (fun h34 => ?_) (fun h34 => ?_)
  ·have m1 := FT (n := n) (d := d) (a := (a + (b - a) / 4 * 1)) (k := 0) ow ow
   have m2 := FT (n := n) (d := d) (a := (a + (b - a) / 4 * 2)) (k := (Go.Sort.medianAdjacent v5 d (a + (b - a) / 4 * 1) 0).2) ow ow
   have m3 := FT (n := n) (d := d) (a := (a + (b - a) / 4 * 3)) (k := (Go.Sort.medianAdjacent v5 d (a + (b - a) / 4 * 2) (Go.Sort.medianAdjacent v5 d (a + (b - a) / 4 * 1) 0).2).2) ow ow
   refine gw ?_
   refine z7 (l8 (Pre := [Blk g 40 (w7 (d) r), Blk b9 3 [iI (0 : Nat)]]) (R := _) en rfl pm1 (fun w hw => qO g n cp d r hn hm b9 (0) ow ((a + (b - a) / 4 * 1)) ow ow w hw.sat.left) ?_)
   rintro v L' ⟨rfl, rfl⟩
   refine gw ?_
   refine z7 (l8 (Pre := [Blk g 40 (w7 (d) r), Blk b9 3 [iI ((Go.Sort.medianAdjacent v5 d (a + (b - a) / 4 * 1) 0).2 : Nat)]]) (R := _) en rfl pr (fun w hw => qO g n cp d r hn hm b9 ((Go.Sort.medianAdjacent v5 d (a + (b - a) / 4 * 1) 0).2) ow ((a + (b - a) / 4 * 2)) ow ow w hw.sat.left) ?_)
   rintro v L' ⟨rfl, rfl⟩
   refine gw ?_
   refine z7 (l8 (Pre := [Blk g 40 (w7 (d) r), Blk b9 3 [iI ((Go.Sort.medianAdjacent v5 d (a + (b - a) / 4 * 2) (Go.Sort.medianAdjacent v5 d (a + (b - a) / 4 * 1) 0).2).2 : Nat)]]) (R := _) en rfl pr (fun w hw => qO g n cp d r hn hm b9 ((Go.Sort.medianAdjacent v5 d (a + (b - a) / 4 * 2) (Go.Sort.medianAdjacent v5 d (a + (b - a) / 4 * 1) 0).2).2) ow ((a + (b - a) / 4 * 3)) ow ow w hw.sat.left) ?_)
   rintro v L' ⟨rfl, rfl⟩
   refine gw ?_
   refine z7 (l8 (Pre := [Blk g 40 (w7 (d) r), Blk b9 3 [iI ((Go.Sort.medianAdjacent v5 d (a + (b - a) / 4 * 3) (Go.Sort.medianAdjacent v5 d (a + (b - a) / 4 * 2) (Go.Sort.medianAdjacent v5 d (a + (b - a) / 4 * 1) 0).2).2).2 : Nat)]]) (R := _) en rfl pr (fun w hw => kK g n cp d r hn hm b9 ((Go.Sort.medianAdjacent v5 d (a + (b - a) / 4 * 3) (Go.Sort.medianAdjacent v5 d (a + (b - a) / 4 * 2) (Go.Sort.medianAdjacent v5 d (a + (b - a) / 4 * 1) 0).2).2).2) ow ((Go.Sort.medianAdjacent v5 d (a + (b - a) / 4 * 1) 0).1) ((Go.Sort.medianAdjacent v5 d (a + (b - a) / 4 * 2) (Go.Sort.medianAdjacent v5 d (a + (b - a) / 4 * 1) 0).2).1) ((Go.Sort.medianAdjacent v5 d (a + (b - a) / 4 * 3) (Go.Sort.medianAdjacent v5 d (a + (b - a) / 4 * 2) (Go.Sort.medianAdjacent v5 d (a + (b - a) / 4 * 1) 0).2).2).1) ow ow ow w hw.sat.left) ?_)
   rintro v L' ⟨rfl, rfl⟩
   refine gw ?_
   refine j0 rfl rfl (z6 (b := 0) rfl rfl) (fun h52 => gw ?_) (fun h52 => gw ?_)
   ·refine a9 (finQ.ret rv (sx [0]) ?_)
    refine ⟨?_, rfl⟩
    rw [Go.Sort.choosePivot_eq, Go.Sort.rawPivot, if_pos h32, if_pos h34]
    simp only [Go.Sort.hintOf]
    rw [if_pos h52]
    rfl
   ·refine j0 rfl rfl (z6 (b := 12) rfl rfl) (fun h55 => gw ?_) (fun h55 => gw ?_)
    ·refine a9 (finQ.ret rv (sx [0]) ?_)
     refine ⟨?_, rfl⟩
     rw [Go.Sort.choosePivot_eq, Go.Sort.rawPivot, if_pos h32, if_pos h34]
     simp only [Go.Sort.hintOf]
     rw [if_neg h52, if_pos h55]
     rfl
    ·refine a9 (finQ.ret rv (sx [0]) ?_)
     refine ⟨?_, rfl⟩
     rw [Go.Sort.choosePivot_eq, Go.Sort.rawPivot, if_pos h32, if_pos h34]
     simp only [Go.Sort.hintOf]
     rw [if_neg h52, if_neg h55]
     rfl
  ·refine gw ?_
   refine z7 (l8 (Pre := [Blk g 40 (w7 (d) r), Blk b9 3 [iI (0 : Nat)]]) (R := _) en rfl pm1 (fun w hw => kK g n cp d r hn hm b9 (0) ow ((a + (b - a) / 4 * 1)) ((a + (b - a) / 4 * 2)) ((a + (b - a) / 4 * 3)) ow ow ow w hw.sat.left) ?_)
   rintro v L' ⟨rfl, rfl⟩
   refine gw ?_
   refine j0 rfl rfl (z6 (b := 0) rfl rfl) (fun h52 => gw ?_) (fun h52 => gw ?_)
   ·refine a9 (finQ.ret rv (sx [0]) ?_)
    refine ⟨?_, rfl⟩
    rw [Go.Sort.choosePivot_eq, Go.Sort.rawPivot, if_pos h32, if_neg h34]
    simp only [Go.Sort.hintOf]
    rw [if_pos h52]
    rfl
   ·refine j0 rfl rfl (z6 (b := 12) rfl rfl) (fun h55 => gw ?_) (fun h55 => gw ?_)
    ·refine a9 (finQ.ret rv (sx [0]) ?_)
     refine ⟨?_, rfl⟩
     rw [Go.Sort.choosePivot_eq, Go.Sort.rawPivot, if_pos h32, if_neg h34]
     simp only [Go.Sort.hintOf]
     rw [if_neg h52, if_pos h55]
     rfl
    ·refine a9 (finQ.ret rv (sx [0]) ?_)
     refine ⟨?_, rfl⟩
     rw [Go.Sort.choosePivot_eq, Go.Sort.rawPivot, if_pos h32, if_neg h34]
     simp only [Go.Sort.hintOf]
     rw [if_neg h52, if_neg h55]
     rfl
 ·refine j0 rfl rfl (z6 (b := 0) rfl rfl) (fun h52 => gw ?_) (fun h52 => gw ?_)
  ·refine a9 (finQ.ret rv (sx [1]) ?_)
   refine ⟨?_, rfl⟩
   rw [Go.Sort.choosePivot_eq, Go.Sort.rawPivot, if_neg h32]
   simp only [Go.Sort.hintOf]
   rfl
  ·refine j0 rfl rfl (z6 (b := 12) rfl rfl) (fun h55 => gw ?_) (fun h55 => gw ?_)
   ·refine a9 (finQ.ret rv (sx [1]) ?_)
    refine ⟨?_, rfl⟩
    rw [Go.Sort.choosePivot_eq, Go.Sort.rawPivot, if_neg h32]
    simp only [Go.Sort.hintOf]
    exact absurd rfl h52
   ·refine a9 (finQ.ret rv (sx [1]) ?_)
    refine ⟨?_, rfl⟩
    rw [Go.Sort.choosePivot_eq, Go.Sort.rawPivot, if_neg h32]
    simp only [Go.Sort.hintOf]
    exact absurd rfl h52
theorem zaL (g n cp : Nat) (d : Array Nat) (r : List Value) (hn : d.size = n) (hm : n < 4294967296) (a b : Nat) (hab : a ≤ b) (hb : b ≤ n) (w0) (hL : Sat w0 [Blk g 40 (w7 (d) r)]) :
  Calls prog 218 #[sL (some ⟨g, 0, none⟩) n cp, iI a, iI b] w0 (D0 w0 (A8 [Blk g 40 (w7 (d) r)]) fun v L => v = .tuple #[] ∧ L = [Blk g 40 (w7 (Go.Sort.insertionSort v5 d a b) r)]) := by
 refine gW (L := [Blk g 40 (w7 (d) r)]) 49 [] func218 hL ?_
 refine gw ?_
 refine l5 (γ := Nat × Array Nat) (mr 10 39 [6, 7]) (fun q => [(6, iI q.1)]) (fun q => [Blk g 40 (w7 q.2 r)]) (fun q => a + 1 ≤ q.1 ∧ q.2.size = n ∧ Go.Sort.insOuter v5 a b q.1 q.2 = Go.Sort.insertionSort v5 d a b) (fun q => b - q.1) ((a + 1, d))
  ⟨Nat.le_refl _, hn, rfl⟩ oa sr ?_
 rintro ⟨i, e⟩ u ⟨hi, he, hq⟩
 dsimp only at hi he hq
 show TC _ _ _ (puts [(6, iI i)] (scr _ u _)) [Blk g 40 (w7 (e) r)]
 refine gw ?_
 refine j0 rfl rfl (p9 rfl rfl) (fun h12 => gw ?_) (fun h12 => gw ?_)
 ·refine l5 (γ := Nat × Array Nat) (mr 16 33 [7]) (fun q => [(7, iI q.1)]) (fun q => [Blk g 40 (w7 q.2 r)]) (fun q => q.1 ≤ i ∧ q.2.size = n ∧ Go.Sort.insInner v5 a q.1 q.2 = Go.Sort.insInner v5 a i e) (fun q => q.1) ((i, e))
   ⟨Nat.le_refl _, he, rfl⟩ oa sr ?_
  rintro ⟨j, f⟩ u ⟨hj, hf, hqf⟩
  dsimp only at hj hf hqf
  show TC _ _ _ (puts [(7, iI j)] (scr _ u _)) [Blk g 40 (w7 (f) r)]
  refine gw ?_
  refine dw ([], []) (gw ?_)
  refine aY (k := 2) rfl kr kr kr rfl rfl (M0 rfl rfl) (fun h18 => gw ?_) (fun h18 => gw ?_)
  ·refine C2 6 rfl rfl (iB rfl rfl) (C2 7 rfl rfl (lB rfl) (gw ?_))
   refine C2 10 rfl rfl (o7 (b := 1) rfl rfl ow km) (C2 11 rfl rfl (iB rfl rfl) (C2 12 rfl rfl (lB rfl) ?_))
   by_cases h29 : v5 f[j]! f[j - 1]! = true
   ·refine Q7 13 rfl rfl en (fun w hw => aN h29 w) (gw ?_)
    refine p7 (gw ?_)
    refine dw ([15, 17], []) (gw ?_)
    refine jU 4 rfl (o7 (b := 1) rfl rfl ow km) (gw ?_)
    refine c6 7 rfl (o7 (b := 1) rfl rfl ow km) (c6 8 rfl (iB rfl rfl) (c6 9 rfl (lB rfl) (gw ?_)))
    refine c6 12 rfl (iB rfl rfl) (c6 13 rfl (lB rfl) ?_)
    refine c6 14 rfl (x1 uT cT rfl rfl ow (j8 w5) bS) (F7 15 rfl (q6 rfl cw cT rfl rfl bS (B9 od) (G0 ?_)))
    refine c6 16 rfl (x1 (i := j - 1) uT cT rfl rfl ow (j8 w5) bS) (F7 17 rfl (q6 rfl cw cT rfl rfl bS (B9 aS) (G0 ?_)))
    refine p7 (gw ?_)
    refine e6 (o7 (b := 1) rfl rfl ow km) (gw ?_)
    refine ⟨(j - 1, Go.Sort.swp f j (j - 1)), ?_, od, oz, sr⟩
    exact ⟨by dsimp only; omega, (Go.Sort.swp_size _ _ _).trans hf, (zfa h18 h29).symm.trans hqf⟩
   ·refine Q7 13 rfl rfl en (fun w hw => aM h29 w) (gw ?_)
    refine p7 (gw ?_)
    refine i7 (c7 (gw ?_))
    refine ⟨(i + 1, f), ?_, od, oz, sr⟩
    exact ⟨by dsimp only; omega, hf, by dsimp only; rw [← hq, zD h12, ← hqf, zdJ h29]⟩
  ·refine p7 (gw ?_)
   refine i7 (c7 (gw ?_))
   refine ⟨(i + 1, f), ?_, od, oz, sr⟩
   exact ⟨by dsimp only; omega, hf, by dsimp only; rw [← hq, zD h12, ← hqf, zfb h18]⟩
 ·refine i7 (finQ.normal n9 sr ?_)
  rw [← hq, zfc h12]
  exact rr
theorem zhw (g n cp : Nat) (d : Array Nat) (r : List Value) (hn : d.size = n) (hm : n < 4294967296) (a b : Nat) (hab : a < b) (hb : b ≤ n) (w0) (hL : Sat w0 [Blk g 40 (w7 (d) r)]) :
  Calls prog 222 #[sL (some ⟨g, 0, none⟩) n cp, iI a, iI b] w0 (D0 w0 (A8 [Blk g 40 (w7 (d) r)]) fun v L => v = .tuple #[] ∧ L = [Blk g 40 (w7 (Go.Sort.reverseRange d a b) r)]) := by
 refine gW (L := [Blk g 40 (w7 (d) r)]) 32 [] func222 hL ?_
 refine gw ?_
 refine e6 (o7 (b := 1) rfl rfl ow km) (gw ?_)
 refine l5 (γ := Nat × Nat × Array Nat) (mr 11 21 [6, 7]) (fun q => [(6, iI q.1), (7, iI q.2.1)]) (fun q => [Blk g 40 (w7 q.2.2 r)]) (fun q => q.2.1 < n ∧ q.2.2.size = n ∧ Go.Sort.reverseLoop q.1 q.2.1 q.2.2 = Go.Sort.reverseRange d a b) (fun q => q.2.1 - q.1) ((a, b - 1, d))
  ⟨by dsimp only; omega, hn, rfl⟩ oa sr ?_
 rintro ⟨i, j, e⟩ u ⟨hj, he, hq⟩
 dsimp only at hj he hq
 show TC _ _ _ (puts [(6, iI i), (7, iI j)] (scr _ u _)) [Blk g 40 (w7 (e) r)]
 refine gw ?_
 refine j0 rfl rfl (p9 rfl rfl) (fun h13 => gw ?_) (fun h13 => gw ?_)
 ·refine dw ([13, 15], []) (gw ?_)
  refine c6 6 rfl (iB rfl rfl) (c6 7 rfl (lB rfl) (gw ?_))
  refine c6 10 rfl (iB rfl rfl) (c6 11 rfl (lB rfl) ?_)
  refine c6 12 rfl (x1 uT cT rfl rfl ow (j8 w5) bS) (F7 13 rfl (q6 rfl cw cT rfl rfl bS (B9 od) (G0 ?_)))
  refine c6 14 rfl (x1 (i := j) uT cT rfl rfl ow (j8 w5) bS) (F7 15 rfl (q6 rfl cw cT rfl rfl bS (B9 aS) (G0 ?_)))
  refine p7 (gw ?_)
  refine e6 (o7 (b := 1) rfl rfl ow km) (gw ?_)
  refine ⟨(i + 1, j - 1, Go.Sort.swp e i j), ?_, od, oz, sr⟩
  exact ⟨by dsimp only; omega, (Go.Sort.swp_size _ _ _).trans he, (zhu h13).symm.trans hq⟩
 ·refine i7 (finQ.normal n9 sr ?_)
  rw [← hq, zhv h13]
  exact rr
theorem AK (g n cp : Nat) (d : Array Nat) (r : List Value) (hn : d.size = n) (hm : n < 4294967296) (lo hi first : Nat) (hlo : lo ≤ hi) (hf : first + hi ≤ n) (w0) (hL : Sat w0 [Blk g 40 (w7 (d) r)]) :
  Calls prog 228 #[sL (some ⟨g, 0, none⟩) n cp, iI lo, iI hi, iI first] w0 (D0 w0 (A8 [Blk g 40 (w7 (d) r)]) fun v L => v = .tuple #[] ∧ L = [Blk g 40 (w7 (Go.Sort.siftDown v5 hi first lo d) r)]) := by
 refine gW (L := [Blk g 40 (w7 (d) r)]) 76 [] func228 hL ?_
 refine gw ?_
 refine l5 (γ := Nat × Array Nat) (mr 11 65 [8, 9]) (fun q => [(8, iI q.1)]) (fun q => [Blk g 40 (w7 q.2 r)]) (fun q => q.1 ≤ hi ∧ q.2.size = n ∧ Go.Sort.siftDown v5 hi first q.1 q.2 = Go.Sort.siftDown v5 hi first lo d) (fun q => hi - q.1) ((lo, d))
  ⟨hlo, hn, rfl⟩ oa sr ?_
 rintro ⟨root, e⟩ u ⟨hr, he, hq⟩
 dsimp only at hr he hq
 show TC _ _ _ (puts [(8, iI root)] (scr _ u _)) [Blk g 40 (w7 (e) r)]
 refine gw ?_
 refine e6 (F3 (a := 2) rfl rfl km) (gw ?_)
 refine j0 rfl rfl (T0 rfl rfl) (fun h16 => gw ?_) (fun h16 => gw ?_)
 ·refine i7 (finQ.normal n9 sr ?_)
  rw [← hq, AH h16]
  exact rr
 ·refine dw ([], []) (gw ?_)
  refine aY (k := 3) rfl kr kr kr rfl rfl (p9 rfl rfl) (fun h20 => gw ?_) (fun h20 => gw ?_)
  ·refine C2 8 rfl rfl (v4 rfl rfl km) (C2 9 rfl rfl (iB rfl rfl) (C2 10 rfl rfl (lB rfl) (gw ?_)))
   refine C2 14 rfl rfl (v4 rfl rfl km) (gw ?_)
   refine C2 16 rfl rfl (iB rfl rfl) (C2 17 rfl rfl (lB rfl) ?_)
   by_cases h35 : v5 e[first + (2 * root + 1)]! e[first + (2 * root + 1) + 1]! = true
   ·refine Q7 18 rfl rfl en (fun w hw => aN h35 w) (gw ?_)
    refine p7 (gw ?_)
    refine dw ([], []) ?_
    have hk : HZ e hi first root = (2 * root + 1 + 1) := if_pos ⟨h20, h35⟩
    refine gw ?_
    refine c6 3 rfl (v4 rfl rfl km) (c6 4 rfl (iB rfl rfl) (c6 5 rfl (lB rfl) (gw ?_)))
    refine c6 9 rfl (v4 rfl rfl km) (c6 10 rfl (iB rfl rfl) (c6 11 rfl (lB rfl) ?_))
    by_cases h51 : v5 e[first + root]! e[first + (2 * root + 1 + 1)]! = true
    ·refine I7 12 rfl en (fun w hw => aN h51 w) (gw ?_)
     refine p7 (gw ?_)
     refine dw ([21, 23], []) (gw ?_)
     refine c6 3 rfl (v4 rfl rfl km) (gw ?_)
     refine jU 7 rfl (v4 rfl rfl km) (gw ?_)
     refine c6 11 rfl (v4 rfl rfl km) (c6 12 rfl (iB rfl rfl) (c6 13 rfl (lB rfl) (gw ?_)))
     refine c6 17 rfl (v4 rfl rfl km) (c6 18 rfl (iB rfl rfl) (c6 19 rfl (lB rfl) ?_))
     refine c6 20 rfl (x1 uT cT rfl rfl ow (j8 w5) bS) (F7 21 rfl (q6 rfl cw cT rfl rfl bS (B9 od) (G0 ?_)))
     refine c6 22 rfl (x1 (i := first + (2 * root + 1 + 1)) uT cT rfl rfl ow (j8 w5) bS) (F7 23 rfl (q6 rfl cw cT rfl rfl bS (B9 aS) (G0 ?_)))
     refine p7 (gw ?_)
     refine ⟨((2 * root + 1 + 1), Go.Sort.swp e (first + root) (first + (2 * root + 1 + 1))), ?_, od, oz, sr⟩
     exact ⟨by dsimp only; omega, (Go.Sort.swp_size _ _ _).trans he, by dsimp only; rw [← hq, lZ h16 (by rw [hk]; exact h51), hk]⟩
    ·refine I7 12 rfl en (fun w hw => aM h51 w) (gw ?_)
     refine p7 (gw ?_)
     refine a9 (finQ.ret n9 sr ?_)
     rw [← hq, mA h16 (by rw [hk]; exact h51)]
     exact rr
   ·refine Q7 18 rfl rfl en (fun w hw => aM h35 w) (gw ?_)
    refine p7 (gw ?_)
    refine dw ([], []) ?_
    have hk : HZ e hi first root = (2 * root + 1) := if_neg (fun hc => h35 hc.2)
    refine gw ?_
    refine c6 3 rfl (v4 rfl rfl km) (c6 4 rfl (iB rfl rfl) (c6 5 rfl (lB rfl) (gw ?_)))
    refine c6 9 rfl (v4 rfl rfl km) (c6 10 rfl (iB rfl rfl) (c6 11 rfl (lB rfl) ?_))
    by_cases h51 : v5 e[first + root]! e[first + (2 * root + 1)]! = true
    ·refine I7 12 rfl en (fun w hw => aN h51 w) (gw ?_)
     refine p7 (gw ?_)
     refine dw ([21, 23], []) (gw ?_)
     refine c6 3 rfl (v4 rfl rfl km) (gw ?_)
     refine jU 7 rfl (v4 rfl rfl km) (gw ?_)
     refine c6 11 rfl (v4 rfl rfl km) (c6 12 rfl (iB rfl rfl) (c6 13 rfl (lB rfl) (gw ?_)))
     refine c6 17 rfl (v4 rfl rfl km) (c6 18 rfl (iB rfl rfl) (c6 19 rfl (lB rfl) ?_))
     refine c6 20 rfl (x1 uT cT rfl rfl ow (j8 w5) bS) (F7 21 rfl (q6 rfl cw cT rfl rfl bS (B9 od) (G0 ?_)))
     refine c6 22 rfl (x1 (i := first + (2 * root + 1)) uT cT rfl rfl ow (j8 w5) bS) (F7 23 rfl (q6 rfl cw cT rfl rfl bS (B9 aS) (G0 ?_)))
     refine p7 (gw ?_)
     refine ⟨((2 * root + 1), Go.Sort.swp e (first + root) (first + (2 * root + 1))), ?_, od, oz, sr⟩
     exact ⟨by dsimp only; omega, (Go.Sort.swp_size _ _ _).trans he, by dsimp only; rw [← hq, lZ h16 (by rw [hk]; exact h51), hk]⟩
    ·refine I7 12 rfl en (fun w hw => aM h51 w) (gw ?_)
     refine p7 (gw ?_)
     refine a9 (finQ.ret n9 sr ?_)
     rw [← hq, mA h16 (by rw [hk]; exact h51)]
     exact rr
  ·refine p7 (gw ?_)
   refine dw ([], []) ?_
   have hk : HZ e hi first root = (2 * root + 1) := if_neg (fun hc => h20 hc.1)
   refine gw ?_
   refine c6 3 rfl (v4 rfl rfl km) (c6 4 rfl (iB rfl rfl) (c6 5 rfl (lB rfl) (gw ?_)))
   refine c6 9 rfl (v4 rfl rfl km) (c6 10 rfl (iB rfl rfl) (c6 11 rfl (lB rfl) ?_))
   by_cases h51 : v5 e[first + root]! e[first + (2 * root + 1)]! = true
   ·refine I7 12 rfl en (fun w hw => aN h51 w) (gw ?_)
    refine p7 (gw ?_)
    refine dw ([21, 23], []) (gw ?_)
    refine c6 3 rfl (v4 rfl rfl km) (gw ?_)
    refine jU 7 rfl (v4 rfl rfl km) (gw ?_)
    refine c6 11 rfl (v4 rfl rfl km) (c6 12 rfl (iB rfl rfl) (c6 13 rfl (lB rfl) (gw ?_)))
    refine c6 17 rfl (v4 rfl rfl km) (c6 18 rfl (iB rfl rfl) (c6 19 rfl (lB rfl) ?_))
    refine c6 20 rfl (x1 uT cT rfl rfl ow (j8 w5) bS) (F7 21 rfl (q6 rfl cw cT rfl rfl bS (B9 od) (G0 ?_)))
    refine c6 22 rfl (x1 (i := first + (2 * root + 1)) uT cT rfl rfl ow (j8 w5) bS) (F7 23 rfl (q6 rfl cw cT rfl rfl bS (B9 aS) (G0 ?_)))
    refine p7 (gw ?_)
    refine ⟨((2 * root + 1), Go.Sort.swp e (first + root) (first + (2 * root + 1))), ?_, od, oz, sr⟩
    exact ⟨by dsimp only; omega, (Go.Sort.swp_size _ _ _).trans he, by dsimp only; rw [← hq, lZ h16 (by rw [hk]; exact h51), hk]⟩
   ·refine I7 12 rfl en (fun w hw => aM h51 w) (gw ?_)
    refine p7 (gw ?_)
    refine a9 (finQ.ret n9 sr ?_)
    rw [← hq, mA h16 (by rw [hk]; exact h51)]
    exact rr
theorem ze5 (g n cp : Nat) (d : Array Nat) (r : List Value) (hn : d.size = n) (hm : n < 4294967296) (a b : Nat) (hab : a < b) (hb : b ≤ n) (w0 : World) (hL : Sat w0 [Blk g 40 (w7 (d) r)]) :
    Calls prog 219 #[.slice (some ⟨g, 0, none⟩) n cp, .int .i64 ((a : Nat) : Int), .int .i64 ((b : Nat) : Int)] w0 (D0 w0 (A8 [Blk g 40 (w7 (d) r)]) fun v L => v = .tuple #[] ∧ L = [Blk g 40 (w7 (Go.Sort.heapSort v5 d a b) r)]) := by
  refine N4 (L := [Blk g 40 (w7 (d) r)]) (n := 56) (rs := []) func219 rfl rfl rfl (Nat.le_of_ble_eq_true rfl) (hL) ?_
  refine c8 ?_
  refine c7 ?_
  refine o8 ?_
  refine C3 ?_
  refine l3 ?_
  refine c8 ?_
  refine c7 ?_
  refine C3 ?_
  refine l3 ?_
  refine c8 ?_
  refine c7 ?_
  refine o8 ?_
  refine o8 ?_
  refine e6 (o7 rfl rfl ow km) ?_
  refine C3 ?_
  refine l3 ?_
  refine c8 ?_
  refine c8 ?_
  refine c7 ?_
  refine o8 ?_
  refine e6 (o7 (b := 1) rfl rfl ow km) ?_
  refine e6 (I2 (b := 2) rfl rfl ow km) ?_
  refine C3 ?_
  refine l3 ?_
  refine C5 ?_
  refine l5 (γ := Nat × Array Nat) [18, 19, 22, 23, 24, 25, 26, 20, 21, 9] (fun q => [(9, .int .i64 (((q.1 : Nat) : Int) - 1))]) (fun q => [Blk g 40 (w7 q.2 r)]) (fun q => q.1 ≤ (b - a - 1) / 2 + 1 ∧ q.2.size = n ∧ Go.Sort.heapBuild v5 (b - a) a q.1 q.2 = Go.Sort.heapBuild v5 (b - a) a ((b - a - 1) / 2 + 1) d) (fun q => q.1) (((b - a - 1) / 2 + 1, d))
    ⟨Nat.le_refl _, hn, rfl⟩ ⟨Out.refl _ _, (List.forall_mem_cons.2 ⟨(by show Value.int .i64 _ = Value.int .i64 _; exact congrArg (Value.int .i64) (by dsimp only; omega)), (fun _ h => nomatch h)⟩)⟩ sr ?_
  rintro ⟨k, e⟩ u ⟨hk, he, hq⟩
  dsimp only at hk he hq
  show TC _ _ _ (puts [(9, .int .i64 (((k : Nat) : Int) - 1))] (scr _ u _)) [Blk g 40 (w7 (e) r)]
  refine c8 ?_
  refine c8 ?_
  refine c7 ?_
  refine o8 ?_
  refine j0 rfl rfl (eI rfl rfl) (fun h19 => ?_) (fun h19 => ?_)
  · refine l3 ?_
    refine Q3 rfl ?_
    refine w8 ?_
    refine c8 ?_
    refine C5 ?_
    refine c7 ?_
    refine o8 ?_
    refine e6 (n8 (v' := .int .i64 ((k - 1 : Nat) : Int)) (m8 cw) (congrArg (Value.int .i64) ow)) ?_
    refine o8 ?_
    refine o8 ?_
    refine z7 (l8 (Pre := [Blk g 40 (w7 (e) r)]) (R := _) J228 rfl pr (fun w hw => AK g n cp e r he hm (k - 1) (b - a) a ow ow w hw.sat.left) ?_)
    rintro v L' ⟨rfl, rfl⟩
    refine l3 ?_
    refine c7 ?_
    refine e6 (n8 (v' := .int .i64 ((k - 1 : Nat) : Int)) (m8 cw) (congrArg (Value.int .i64) ow)) ?_
    refine e6 (cM rfl rfl (IntWalk.i64_in _ ow)) ?_
    refine C3 ?_
    refine l3 ?_
    refine ⟨(k - 1, Go.Sort.siftDown v5 (b - a) a (k - 1) e), ?_, ?_, ⟨?_, (List.forall_mem_cons.2 ⟨rfl, (fun _ h => nomatch h)⟩)⟩, sr⟩
    · exact ⟨by dsimp only; omega, (AJ _ _ _ _).trans he, (zir ow).symm.trans hq⟩
    · show _ < _; dsimp only; omega
    repeat (first | exact Out.refl _ _ | refine Out.put rfl ?_ | refine U3 rfl ?_ | refine Out.scr ?_ | refine X4 rfl ?_)
  · refine l3 ?_
    refine C4 rfl ?_
    refine i7 ?_
    refine c8 ?_
    refine c7 ?_
    refine o8 ?_
    refine e6 (o7 (b := 1) rfl rfl ow km) ?_
    refine C3 ?_
    refine l3 ?_
    refine C5 ?_
    refine l5 (γ := Nat × Array Nat) [29, 30, 33, 34, 35, 36, 37, 38, 39, 40, 41, 42, 43, 44, 45, 46, 47, 48, 49, 50, 51, 52, 53, 54, 55, 31, 32, 10] (fun q => [(10, .int .i64 (((q.1 : Nat) : Int) - 1))]) (fun q => [Blk g 40 (w7 q.2 r)]) (fun q => q.1 ≤ b - a ∧ q.2.size = n ∧ Go.Sort.heapPop v5 a q.1 q.2 = Go.Sort.heapSort v5 d a b) (fun q => q.1) ((b - a, e))
      ⟨Nat.le_refl _, he, by dsimp only; rw [Go.Sort.heapSort, ← hq, zis ow]⟩ ⟨Out.refl _ _, (List.forall_mem_cons.2 ⟨(by show Value.int .i64 _ = Value.int .i64 _; exact congrArg (Value.int .i64) (by dsimp only; omega)), (fun _ h => nomatch h)⟩)⟩ sr ?_
    rintro ⟨k, e⟩ u ⟨hk2, he2, hq2⟩
    dsimp only at hk2 he2 hq2
    show TC _ _ _ (puts [(10, .int .i64 (((k : Nat) : Int) - 1))] (scr _ u _)) [Blk g 40 (w7 (e) r)]
    refine c8 ?_
    refine c8 ?_
    refine c7 ?_
    refine o8 ?_
    refine j0 rfl rfl (eI rfl rfl) (fun h30 => ?_) (fun h30 => ?_)
    · refine l3 ?_
      refine Q3 rfl ?_
      refine w8 ?_
      refine c8 ?_
      refine C5 ?_
      refine c8 ?_
      refine dw ([17, 19], []) ?_
      refine c6 0 rfl (m8 cw) ?_
      refine c6 1 rfl (m8 cw) ?_
      refine jU 2 rfl (m8 cw) ?_
      refine jU 3 rfl (m8 cw) ?_
      refine jU 4 rfl (n8 (v' := .int .i64 ((k - 1 : Nat) : Int)) (m8 cw) (congrArg (Value.int .i64) ow)) ?_
      refine jU 5 rfl (v4 rfl rfl km) ?_
      refine c6 6 rfl (m8 cw) ?_
      refine c6 7 rfl (m8 cw) ?_
      refine c6 8 rfl (n8 (v' := .int .i64 ((k - 1 : Nat) : Int)) (m8 cw) (congrArg (Value.int .i64) ow)) ?_
      refine c6 9 rfl (v4 rfl rfl km) ?_
      refine c6 10 rfl (i5 uT cT rfl rfl ow (j8 w5) (by simp only [K6]; omega)) ?_
      refine c6 11 rfl (a8 rfl (A9 (j8 w5) oT (eM (by (try dsimp only); omega)))) ?_
      refine c6 12 rfl (m8 cw) ?_
      refine c6 13 rfl (m8 cw) ?_
      refine c6 14 rfl (i5 uT cT rfl rfl ow (j8 w5) (by simp only [K6]; omega)) ?_
      refine c6 15 rfl (a8 rfl (A9 (j8 w5) oT (eM (by (try dsimp only); omega)))) ?_
      refine c6 16 rfl (x1 uT cT rfl rfl ow (j8 w5) (by simp only [K6]; omega)) ?_
      refine fH (k := 17) sn rfl (by kernel_rfl) (by kernel_rfl) rfl (q6 rfl cw cT rfl rfl (by simp only [K6, Array.size_setIfInBounds]; omega) (B9 (by (try dsimp only); omega)) ⟨sn, ?_⟩)
      refine c6 18 rfl (x1 (i := a + (k - 1)) uT cT rfl rfl ow (j8 w5) (by simp only [K6, Array.size_setIfInBounds]; omega)) ?_
      refine fH (k := 19) sn rfl (by kernel_rfl) (by kernel_rfl) rfl (q6 rfl cw cT rfl rfl (by simp only [K6, Array.size_setIfInBounds]; omega) (B9 (by (try simp only [Array.size_setIfInBounds]); omega)) ⟨sn, ?_⟩)
      refine R2 sn (by kernel_rfl) ?_
      refine c7 ?_
      refine o8 ?_
      refine o8 ?_
      refine e6 (n8 (v' := .int .i64 ((k - 1 : Nat) : Int)) (m8 cw) (congrArg (Value.int .i64) ow)) ?_
      refine o8 ?_
      refine z7 (l8 (Pre := [Blk g 40 (w7 (Go.Sort.swp e a (a + (k - 1))) r)]) (R := _) J228 rfl pr (fun w hw => AK g n cp (Go.Sort.swp e a (a + (k - 1))) r ((Go.Sort.swp_size _ _ _).trans he2) hm 0 (k - 1) a ow ow w hw.sat.left) ?_)
      rintro v L' ⟨rfl, rfl⟩
      refine l3 ?_
      refine c7 ?_
      refine e6 (n8 (v' := .int .i64 ((k - 1 : Nat) : Int)) (m8 cw) (congrArg (Value.int .i64) ow)) ?_
      refine e6 (cM rfl rfl (IntWalk.i64_in _ ow)) ?_
      refine C3 ?_
      refine l3 ?_
      refine ⟨(k - 1, Go.Sort.siftDown v5 (k - 1) a 0 (Go.Sort.swp e a (a + (k - 1)))), ?_, ?_, ⟨?_, (List.forall_mem_cons.2 ⟨rfl, (fun _ h => nomatch h)⟩)⟩, sr⟩
      · exact ⟨by dsimp only; omega, (AJ _ _ _ _).trans ((Go.Sort.swp_size _ _ _).trans he2), (zit ow).symm.trans hq2⟩
      · show _ < _; dsimp only; omega
      repeat (first | exact Out.refl _ _ | refine Out.put rfl ?_ | refine U3 rfl ?_ | refine Out.scr ?_ | refine X4 rfl ?_)
    · refine l3 ?_
      refine C4 rfl ?_
      refine i7 ?_
      refine finQ.normal n9 sr ?_
      rw [← hq2, ziu ow]
      exact ⟨rfl, rfl⟩
theorem zfH (g n cp : Nat) (d : Array Nat) (r : List Value) (hn : d.size = n) (hm : n < 4294967296) (a b pv : Nat) (hp1 : a ≤ pv) (hp2 : pv < b) (hb : b ≤ n) (w0) (hL : Sat w0 [Blk g 40 (w7 (d) r)]) :
  Calls prog 226 #[sL (some ⟨g, 0, none⟩) n cp, iI a, iI b, iI pv] w0 (D0 w0 (A8 [Blk g 40 (w7 (d) r)]) fun v L => v = .tuple #[iI ↑((Go.Sort.partition v5 d a b pv).1), .bool (Go.Sort.partition v5 d a b pv).2.1] ∧ L = [Blk g 40 (w7 ((Go.Sort.partition v5 d a b pv).2.2) r)]) := by
 refine gW (L := [Blk g 40 (w7 (d) r)]) 168 [.tmp 8, .tmp 9] func226 hL ?_
 refine gw ?_
 refine dw ([13, 15], []) (gw ?_)
 refine c6 6 rfl (iB rfl rfl) (c6 7 rfl (lB rfl) (gw ?_))
 refine c6 10 rfl (iB rfl rfl) (c6 11 rfl (lB rfl) ?_)
 refine c6 12 rfl (x1 uT cT rfl rfl ow (j8 w5) bS) (F7 13 rfl (q6 rfl cw cT rfl rfl bS (B9 od) (G0 ?_)))
 refine c6 14 rfl (x1 (i := pv) uT cT rfl rfl ow (j8 w5) bS) (F7 15 rfl (q6 rfl cw cT rfl rfl bS (B9 aS) (G0 ?_)))
 refine p7 (gw ?_)
 refine e6 (o7 (b := 1) rfl rfl ow km) (C3 (C3 (l3 ?_)))
 refine Q8 (γ := Nat × Array Nat) (mr 30 16 [10]) (fun q => [(10, iI q.1)]) (fun q => [Blk g 40 (w7 q.2 r)]) (fun q => a + 1 ≤ q.1 ∧ q.1 ≤ b ∧ q.2.size = n ∧ q.2 = Go.Sort.swp d a pv ∧ FF q.2 a (b - 1) (a + 1) = q.1) ?_ ?_
 ·refine gw ?_
  refine l5 (γ := Nat × Array Nat) (mr 30 16 [10]) (fun q => [(10, iI q.1)]) (fun q => [Blk g 40 (w7 q.2 r)]) (fun q => a + 1 ≤ q.1 ∧ q.1 ≤ b ∧ q.2.size = n ∧ q.2 = Go.Sort.swp d a pv ∧ FF q.2 a (b - 1) q.1 = FF q.2 a (b - 1) (a + 1)) (fun q => b - q.1) ((a + 1, Go.Sort.swp d a pv))
   ⟨Nat.le_refl _, by dsimp only; omega, (Go.Sort.swp_size _ _ _).trans hn, rfl, rfl⟩ oa sr ?_
  rintro ⟨i, e⟩ u ⟨hi, hib, he, hse, hui⟩
  dsimp only at hi hib he hse hui
  show TC _ _ _ (puts [(10, iI i)] (scr _ u _)) [Blk g 40 (w7 (e) r)]
  refine gw ?_
  refine dw ([], []) (gw ?_)
  refine aY (k := 2) rfl kr kr kr rfl rfl (bM rfl rfl) (fun h32 => gw ?_) (fun h32 => gw ?_)
  ·refine C2 6 rfl rfl (iB rfl rfl) (C2 7 rfl rfl (lB rfl) (gw ?_))
   refine C2 10 rfl rfl (iB rfl rfl) (C2 11 rfl rfl (lB rfl) ?_)
   by_cases h42 : v5 e[i]! e[a]! = true
   ·refine Q7 12 rfl rfl en (fun w hw => aN h42 w) (gw ?_)
    refine p7 (gw ?_)
    refine ⟨(i + 1, e), ?_, od, oz, sr⟩
    exact ⟨by dsimp only; omega, by dsimp only; omega, he, hse, (FG h32 h42).symm.trans hui⟩
   ·refine Q7 12 rfl rfl en (fun w hw => aM h42 w) (gw ?_)
    refine p7 (gw ?_)
    refine i7 ?_
    refine ⟨(i, e), ?_, ⟨?_, ag⟩, sr⟩
    ·exact ⟨hi, hib, he, hse, by rw [← hui, AV (Bool.eq_false_iff.2 h42)]⟩
    exact K8
  ·refine p7 (gw ?_)
   refine i7 ?_
   refine ⟨(i, e), ?_, ⟨?_, ag⟩, sr⟩
   ·exact ⟨hi, hib, he, hse, by rw [← hui, AU h32]⟩
   exact K8
 ·rintro ⟨i, e⟩ u ⟨hi, hib, he, hse, hU⟩
  dsimp only at hi hib he hse hU
  show TC _ _ _ (puts [(10, iI i)] (scr _ u _)) [Blk g 40 (w7 (e) r)]
  refine Q8 (γ := Nat) (mr 46 17 [11]) (fun j => [(11, iI j)]) (fun j => [Blk g 40 (w7 e r)]) (fun j => j ≤ (b - 1) ∧ i ≤ j + 1 ∧ DG e a i (b - 1) = j) ?_ ?_
  ·refine gw ?_
   refine l5 (γ := Nat) (mr 46 17 [11]) (fun j => [(11, iI j)]) (fun _ => _) (fun j => j ≤ b - 1 ∧ i ≤ j + 1 ∧ DG e a i j = DG e a i (b - 1)) (fun j => j) (b - 1)
    ⟨Nat.le_refl _, by omega, rfl⟩ oa sr ?_
   rintro j u ⟨hj, hij, hdj⟩
   refine gw ?_
   refine dw ([], []) (gw ?_)
   refine aY (k := 2) rfl kr kr kr rfl rfl (bM rfl rfl) (fun h48 => gw ?_) (fun h48 => gw ?_)
   ·refine C2 6 rfl rfl (iB rfl rfl) (C2 7 rfl rfl (lB rfl) (gw ?_))
    refine C2 10 rfl rfl (iB rfl rfl) (C2 11 rfl rfl (lB rfl) ?_)
    by_cases h58 : v5 e[j]! e[a]! = true
    ·refine Q7 12 rfl rfl en (fun w hw => aN h58 w) (gw ?_)
     refine p7 (gw ?_)
     refine i7 ?_
     refine ⟨j, ?_, ⟨?_, ag⟩, sr⟩
     ·exact ⟨hj, hij, by rw [← hdj, yW (by rw [h58]; rfl)]⟩
     exact K8
    ·refine Q7 12 rfl rfl en (fun w hw => aM h58 w) (gw ?_)
     refine p7 (gw ?_)
     refine e6 (o7 (b := 1) rfl rfl ow km) (gw ?_)
     refine ⟨j - 1, ?_, od, oz, sr⟩
     exact ⟨by omega, by omega, (DH h48 ow (by rw [Bool.eq_false_iff.2 h58]; rfl)).symm.trans hdj⟩
   ·refine p7 (gw ?_)
    refine i7 ?_
    refine ⟨j, ?_, ⟨?_, ag⟩, sr⟩
    ·exact ⟨hj, hij, by rw [← hdj, yV h48]⟩
    exact K8
  ·rintro j u ⟨hj, hij, hD⟩
   refine gw ?_
   refine j0 rfl rfl (M0 rfl rfl) (fun h65 => gw ?_) (fun h65 => gw ?_)
   ·refine dw ([13, 15], []) (gw ?_)
    refine c6 6 rfl (iB rfl rfl) (c6 7 rfl (lB rfl) (gw ?_))
    refine c6 10 rfl (iB rfl rfl) (c6 11 rfl (lB rfl) ?_)
    refine c6 12 rfl (x1 uT cT rfl rfl ow (j8 w5) bS) (F7 13 rfl (q6 rfl cw cT rfl rfl bS (B9 od) (G0 ?_)))
    refine c6 14 rfl (x1 (i := a) uT cT rfl rfl ow (j8 w5) bS) (F7 15 rfl (q6 rfl cw cT rfl rfl bS (B9 aS) (G0 ?_)))
    refine p7 (gw ?_)
    refine a9 (finQ.ret rv sr ?_)
    rw [zfG hse hU hD h65]
    exact rr
   ·refine dw ([13, 15], []) (gw ?_)
    refine c6 6 rfl (iB rfl rfl) (c6 7 rfl (lB rfl) (gw ?_))
    refine c6 10 rfl (iB rfl rfl) (c6 11 rfl (lB rfl) ?_)
    refine c6 12 rfl (x1 uT cT rfl rfl ow (j8 w5) bS) (F7 13 rfl (q6 rfl cw cT rfl rfl bS (B9 od) (G0 ?_)))
    refine c6 14 rfl (x1 (i := j) uT cT rfl rfl ow (j8 w5) bS) (F7 15 rfl (q6 rfl cw cT rfl rfl bS (B9 aS) (G0 ?_)))
    refine p7 (gw ?_)
    refine e6 (o7 (b := 1) rfl rfl ow km) (gw ?_)
    refine l5 (γ := Nat × Nat × Array Nat) (mr 99 54 [10, 11]) (fun q => [(10, iI q.1), (11, iI q.2.1)]) (fun q => [Blk g 40 (w7 q.2.2 r)]) (fun q => a + 1 ≤ q.1 ∧ q.1 ≤ q.2.1 + 2 ∧ q.2.1 ≤ b - 1 ∧ q.2.2.size = n ∧ Go.Sort.partLoop v5 a q.1 q.2.1 q.2.2 = Go.Sort.partLoop v5 a (i + 1) (j - 1) (Go.Sort.swp e i j)) (fun q => q.2.1 + 2 - q.1) ((i + 1, j - 1, Go.Sort.swp e i j))
     ⟨by dsimp only; omega, by dsimp only; omega, by dsimp only; omega, (Go.Sort.swp_size _ _ _).trans he, rfl⟩ oa sr ?_
    rintro ⟨i2, j2, f⟩ u ⟨hi2, hij2, hj2, hf, hq⟩
    dsimp only at hi2 hij2 hj2 hf hq
    show TC _ _ _ (puts [(10, iI i2), (11, iI j2)] (scr _ u _)) [Blk g 40 (w7 (f) r)]
    refine C5 ?_
    refine Q8 (γ := Nat) (mr 99 16 [10]) (fun k => [(10, iI k)]) (fun k => [Blk g 40 (w7 f r)]) (fun k => i2 ≤ k ∧ k ≤ j2 + 2 ∧ FF f a j2 i2 = k) ?_ ?_
    ·refine gw ?_
     refine l5 (γ := Nat) (mr 99 16 [10]) (fun k => [(10, iI k)]) (fun _ => _) (fun k => i2 ≤ k ∧ k ≤ j2 + 2 ∧ FF f a j2 k = FF f a j2 i2) (fun k => j2 + 2 - k) (i2)
      ⟨Nat.le_refl _, by omega, rfl⟩ oa sr ?_
     rintro k u ⟨hk, hkj, huk⟩
     refine gw ?_
     refine dw ([], []) (gw ?_)
     refine aY (k := 2) rfl kr kr kr rfl rfl (bM rfl rfl) (fun h101 => gw ?_) (fun h101 => gw ?_)
     ·refine C2 6 rfl rfl (iB rfl rfl) (C2 7 rfl rfl (lB rfl) (gw ?_))
      refine C2 10 rfl rfl (iB rfl rfl) (C2 11 rfl rfl (lB rfl) ?_)
      by_cases h111 : v5 f[k]! f[a]! = true
      ·refine Q7 12 rfl rfl en (fun w hw => aN h111 w) (gw ?_)
       refine p7 (gw ?_)
       refine ⟨k + 1, ?_, od, oz, sr⟩
       exact ⟨by omega, by omega, (FG h101 h111).symm.trans huk⟩
      ·refine Q7 12 rfl rfl en (fun w hw => aM h111 w) (gw ?_)
       refine p7 (gw ?_)
       refine i7 ?_
       refine ⟨k, ?_, ⟨?_, ag⟩, sr⟩
       ·exact ⟨hk, hkj, by rw [← huk, AV (Bool.eq_false_iff.2 h111)]⟩
       exact K8
     ·refine p7 (gw ?_)
      refine i7 ?_
      refine ⟨k, ?_, ⟨?_, ag⟩, sr⟩
      ·exact ⟨hk, hkj, by rw [← huk, AU h101]⟩
      exact K8
    ·rintro k u ⟨hk, hkj, hU2⟩
     refine Q8 (γ := Nat) (mr 115 17 [11]) (fun l => [(11, iI l)]) (fun l => [Blk g 40 (w7 f r)]) (fun l => l ≤ j2 ∧ k ≤ l + 2 ∧ DG f a k j2 = l) ?_ ?_
     ·refine gw ?_
      refine l5 (γ := Nat) (mr 115 17 [11]) (fun l => [(11, iI l)]) (fun _ => _) (fun l => l ≤ j2 ∧ k ≤ l + 2 ∧ DG f a k l = DG f a k j2) (fun l => l) (j2)
       ⟨Nat.le_refl _, by omega, rfl⟩ oa sr ?_
      rintro l u ⟨hl, hkl, hdl⟩
      refine gw ?_
      refine dw ([], []) (gw ?_)
      refine aY (k := 2) rfl kr kr kr rfl rfl (bM rfl rfl) (fun h117 => gw ?_) (fun h117 => gw ?_)
      ·refine C2 6 rfl rfl (iB rfl rfl) (C2 7 rfl rfl (lB rfl) (gw ?_))
       refine C2 10 rfl rfl (iB rfl rfl) (C2 11 rfl rfl (lB rfl) ?_)
       by_cases h127 : v5 f[l]! f[a]! = true
       ·refine Q7 12 rfl rfl en (fun w hw => aN h127 w) (gw ?_)
        refine p7 (gw ?_)
        refine i7 ?_
        refine ⟨l, ?_, ⟨?_, ag⟩, sr⟩
        ·exact ⟨hl, hkl, by rw [← hdl, yW (by rw [h127]; rfl)]⟩
        exact K8
       ·refine Q7 12 rfl rfl en (fun w hw => aM h127 w) (gw ?_)
        refine p7 (gw ?_)
        refine e6 (o7 (b := 1) rfl rfl ow km) (gw ?_)
        refine ⟨l - 1, ?_, od, oz, sr⟩
        exact ⟨by omega, by omega, (DH h117 ow (by rw [Bool.eq_false_iff.2 h127]; rfl)).symm.trans hdl⟩
      ·refine p7 (gw ?_)
       refine i7 ?_
       refine ⟨l, ?_, ⟨?_, ag⟩, sr⟩
       ·exact ⟨hl, hkl, by rw [← hdl, yV h117]⟩
       exact K8
     ·rintro l u ⟨hl, hkl, hD2⟩
      refine gw ?_
      refine j0 rfl rfl (M0 rfl rfl) (fun h134 => gw ?_) (fun h134 => gw ?_)
      ·refine i7 (c8 (dw ([13, 15], []) (gw ?_)))
       refine c6 6 rfl (iB rfl rfl) (c6 7 rfl (lB rfl) (gw ?_))
       refine c6 10 rfl (iB rfl rfl) (c6 11 rfl (lB rfl) ?_)
       refine c6 12 rfl (x1 uT cT rfl rfl ow (j8 w5) bS) (F7 13 rfl (q6 rfl cw cT rfl rfl bS (B9 od) (G0 ?_)))
       refine c6 14 rfl (x1 (i := a) uT cT rfl rfl ow (j8 w5) bS) (F7 15 rfl (q6 rfl cw cT rfl rfl bS (B9 aS) (G0 ?_)))
       refine p7 (gw ?_)
       refine a9 (finQ.ret rv sr ?_)
       rw [ziB hse hU hD h65 (hq.symm.trans (ziI hU2 hD2 h134))]
       exact rr
      ·refine dw ([13, 15], []) (gw ?_)
       refine c6 6 rfl (iB rfl rfl) (c6 7 rfl (lB rfl) (gw ?_))
       refine c6 10 rfl (iB rfl rfl) (c6 11 rfl (lB rfl) ?_)
       refine c6 12 rfl (x1 uT cT rfl rfl ow (j8 w5) bS) (F7 13 rfl (q6 rfl cw cT rfl rfl bS (B9 od) (G0 ?_)))
       refine c6 14 rfl (x1 (i := l) uT cT rfl rfl ow (j8 w5) bS) (F7 15 rfl (q6 rfl cw cT rfl rfl bS (B9 aS) (G0 ?_)))
       refine p7 (gw ?_)
       refine e6 (o7 (b := 1) rfl rfl ow km) (gw ?_)
       refine ⟨(k + 1, l - 1, Go.Sort.swp f k l), ?_, od, oz, sr⟩
       exact ⟨by dsimp only; omega, by dsimp only; omega, by dsimp only; omega, (Go.Sort.swp_size _ _ _).trans hf, (ziH hU2 hD2 h134).symm.trans hq⟩
theorem zcJ (g n cp : Nat) (d : Array Nat) (r : List Value) (hn : d.size = n) (hm : n < 4294967296) (a b pv : Nat) (hp1 : a ≤ pv) (hp2 : pv < b) (hb : b ≤ n) (w0) (hL : Sat w0 [Blk g 40 (w7 (d) r)]) :
  Calls prog 225 #[sL (some ⟨g, 0, none⟩) n cp, iI a, iI b, iI pv] w0 (D0 w0 (A8 [Blk g 40 (w7 (d) r)]) fun v L => v = iI ↑((Go.Sort.partitionEqual v5 d a b pv).1) ∧ L = [Blk g 40 (w7 ((Go.Sort.partitionEqual v5 d a b pv).2) r)]) := by
 refine gW (L := [Blk g 40 (w7 (d) r)]) 84 [.tmp 8] func225 hL ?_
 refine gw ?_
 refine dw ([13, 15], []) (gw ?_)
 refine c6 6 rfl (iB rfl rfl) (c6 7 rfl (lB rfl) (gw ?_))
 refine c6 10 rfl (iB rfl rfl) (c6 11 rfl (lB rfl) ?_)
 refine c6 12 rfl (x1 uT cT rfl rfl ow (j8 w5) bS) (F7 13 rfl (q6 rfl cw cT rfl rfl bS (B9 od) (G0 ?_)))
 refine c6 14 rfl (x1 (i := pv) uT cT rfl rfl ow (j8 w5) bS) (F7 15 rfl (q6 rfl cw cT rfl rfl bS (B9 aS) (G0 ?_)))
 refine p7 (gw ?_)
 refine e6 (o7 (b := 1) rfl rfl ow km) (gw ?_)
 refine l5 (γ := Nat × Nat × Array Nat) (mr 29 54 [9, 10]) (fun q => [(9, iI q.1), (10, iI q.2.1)]) (fun q => [Blk g 40 (w7 q.2.2 r)]) (fun q => a + 1 ≤ q.1 ∧ q.1 ≤ q.2.1 + 2 ∧ q.2.1 ≤ b - 1 ∧ q.2.2.size = n ∧ Go.Sort.partEqLoop v5 a q.1 q.2.1 q.2.2 = (Go.Sort.partitionEqual v5 d a b pv)) (fun q => q.2.1 + 2 - q.1) ((a + 1, b - 1, Go.Sort.swp d a pv))
  ⟨Nat.le_refl _, by dsimp only; omega, Nat.le_refl _, (Go.Sort.swp_size _ _ _).trans hn, rfl⟩ oa sr ?_
 rintro ⟨i2, j2, f⟩ u ⟨hi2, hij2, hj2, hf, hq⟩
 dsimp only at hi2 hij2 hj2 hf hq
 show TC _ _ _ (puts [(9, iI i2), (10, iI j2)] (scr _ u _)) [Blk g 40 (w7 (f) r)]
 refine C5 ?_
 refine Q8 (γ := Nat) (mr 29 17 [9]) (fun k => [(9, iI k)]) (fun k => [Blk g 40 (w7 f r)]) (fun k => i2 ≤ k ∧ k ≤ j2 + 2 ∧ IC f a j2 i2 = k) ?_ ?_
 ·refine gw ?_
  refine l5 (γ := Nat) (mr 29 17 [9]) (fun k => [(9, iI k)]) (fun _ => _) (fun k => i2 ≤ k ∧ k ≤ j2 + 2 ∧ IC f a j2 k = IC f a j2 i2) (fun k => j2 + 2 - k) (i2)
   ⟨Nat.le_refl _, by omega, rfl⟩ oa sr ?_
  rintro k u ⟨hk, hkj, huk⟩
  refine gw ?_
  refine dw ([], []) (gw ?_)
  refine aY (k := 2) rfl kr kr kr rfl rfl (bM rfl rfl) (fun h31 => gw ?_) (fun h31 => gw ?_)
  ·refine C2 6 rfl rfl (iB rfl rfl) (C2 7 rfl rfl (lB rfl) (gw ?_))
   refine C2 10 rfl rfl (iB rfl rfl) (C2 11 rfl rfl (lB rfl) ?_)
   by_cases h41 : v5 f[a]! f[k]! = true
   ·refine Q7 12 rfl rfl en (fun w hw => aN h41 w) (gw ?_)
    refine p7 (gw ?_)
    refine i7 ?_
    refine ⟨k, ?_, ⟨?_, ag⟩, sr⟩
    ·exact ⟨hk, hkj, by rw [← huk, zgk (by rw [h41]; rfl)]⟩
    exact K8
   ·refine Q7 12 rfl rfl en (fun w hw => aM h41 w) (gw ?_)
    refine p7 (gw ?_)
    refine ⟨k + 1, ?_, od, oz, sr⟩
    exact ⟨by omega, by omega, (zhV h31 (by rw [Bool.eq_false_iff.2 h41]; rfl)).symm.trans huk⟩
  ·refine p7 (gw ?_)
   refine i7 ?_
   refine ⟨k, ?_, ⟨?_, ag⟩, sr⟩
   ·exact ⟨hk, hkj, by rw [← huk, zgj h31]⟩
   exact K8
 ·rintro k u ⟨hk, hkj, hU2⟩
  refine Q8 (γ := Nat) (mr 46 16 [10]) (fun l => [(10, iI l)]) (fun l => [Blk g 40 (w7 f r)]) (fun l => l ≤ j2 ∧ k ≤ l + 2 ∧ IB f a k j2 = l) ?_ ?_
  ·refine gw ?_
   refine l5 (γ := Nat) (mr 46 16 [10]) (fun l => [(10, iI l)]) (fun _ => _) (fun l => l ≤ j2 ∧ k ≤ l + 2 ∧ IB f a k l = IB f a k j2) (fun l => l) (j2)
    ⟨Nat.le_refl _, by omega, rfl⟩ oa sr ?_
   rintro l u ⟨hl, hkl, hdl⟩
   refine gw ?_
   refine dw ([], []) (gw ?_)
   refine aY (k := 2) rfl kr kr kr rfl rfl (bM rfl rfl) (fun h48 => gw ?_) (fun h48 => gw ?_)
   ·refine C2 6 rfl rfl (iB rfl rfl) (C2 7 rfl rfl (lB rfl) (gw ?_))
    refine C2 10 rfl rfl (iB rfl rfl) (C2 11 rfl rfl (lB rfl) ?_)
    by_cases h58 : v5 f[a]! f[l]! = true
    ·refine Q7 12 rfl rfl en (fun w hw => aN h58 w) (gw ?_)
     refine p7 (gw ?_)
     refine e6 (o7 (b := 1) rfl rfl ow km) (gw ?_)
     refine ⟨l - 1, ?_, od, oz, sr⟩
     exact ⟨by omega, by omega, (zgW h48 ow h58).symm.trans hdl⟩
    ·refine Q7 12 rfl rfl en (fun w hw => aM h58 w) (gw ?_)
     refine p7 (gw ?_)
     refine i7 ?_
     refine ⟨l, ?_, ⟨?_, ag⟩, sr⟩
     ·exact ⟨hl, hkl, by rw [← hdl, zeS (Bool.eq_false_iff.2 h58)]⟩
     exact K8
   ·refine p7 (gw ?_)
    refine i7 ?_
    refine ⟨l, ?_, ⟨?_, ag⟩, sr⟩
    ·exact ⟨hl, hkl, by rw [← hdl, zeR h48]⟩
    exact K8
  ·rintro l u ⟨hl, hkl, hD2⟩
   refine gw ?_
   refine j0 rfl rfl (M0 rfl rfl) (fun h64 => gw ?_) (fun h64 => gw ?_)
   ·refine i7 (c8 (gw ?_))
    refine a9 (finQ.ret rv sr ?_)
    rw [← hq, ziF hU2 hD2 h64]
    exact rr
   ·refine dw ([13, 15], []) (gw ?_)
    refine c6 6 rfl (iB rfl rfl) (c6 7 rfl (lB rfl) (gw ?_))
    refine c6 10 rfl (iB rfl rfl) (c6 11 rfl (lB rfl) ?_)
    refine c6 12 rfl (x1 uT cT rfl rfl ow (j8 w5) bS) (F7 13 rfl (q6 rfl cw cT rfl rfl bS (B9 od) (G0 ?_)))
    refine c6 14 rfl (x1 (i := l) uT cT rfl rfl ow (j8 w5) bS) (F7 15 rfl (q6 rfl cw cT rfl rfl bS (B9 aS) (G0 ?_)))
    refine p7 (gw ?_)
    refine e6 (o7 (b := 1) rfl rfl ow km) (gw ?_)
    refine ⟨(k + 1, l - 1, Go.Sort.swp f k l), ?_, od, oz, sr⟩
    exact ⟨by dsimp only; omega, by dsimp only; omega, by dsimp only; omega, (Go.Sort.swp_size _ _ _).trans hf, (ziE hU2 hD2 h64).symm.trans hq⟩
end Go.Proofs.YtgdjcmehlhebdaaGreatDoor
