/- Walks: more than is looked at; what a nil truth answers -/
import Derived.Test.YtgdjcmehlhebdaaGreatDoorYK
set_option maxHeartbeats 25600000
set_option linter.all false
namespace Go.Proofs.YtgdjcmehlhebdaaGreatDoor
open _root_.Go.Proofs.Tryz
open Go.E
set_option maxRecDepth 4000
theorem elem58 : S3 prog 58 4 64 := S4 (by kernel_rfl)
theorem oW (OA) (oc : Nat) (os : List OrdA) (ho : os.length ≤ 2199023255488) (q : ReqA) (p : RepA) (x : OrdA) (w0) (hO : Ro w0 [] (SlA OA (os.flatMap M7))) :
  cP 20 #[sL OA os.length oc, .agg (oC q p x).toArray] w0 fun v L => v = .bool (decide (dJ os q p x)) ∧ L = [] := by
 refine co 65 [.tmp 4] func20 ?_
 refine gw ?_
 intro b3
 refine gw ?_
 refine e6 (a8 rfl (Q0 (vs := M7 x) w5 rT ce58 (BG _ _ _))) (z7 (Q2 (vs := [.agg (M7 x).toArray]) uT elem58 rfl dc rfl (by intro v hv; rw [List.mem_singleton.1 hv]; rfl) (fun g9 => (gw ?_))))
 refine z7 (Y6 (news := os.flatMap M7) uT elem58 rfl rfl (c9 hO) (by rw [wJ]) (zhg _) kx ow (fun O d => (gw ?_)))
 refine l5 (γ := Nat) (mr 13 15 [4, 6]) (fun k => [(13, iI k)]) (fun k => [OwnA 58 4 O (1 + os.length) d (M7 x ++ os.flatMap M7), Blk b3 67 (oC q p x)]) (fun k => k ≤ 1 + os.length ∧ ∀ i, i < k → ¬ uQ ((x :: os).getD i C6)) (fun k => 1 + os.length - k) (0)
  ⟨Nat.zero_le _, fun i h => absurd h (Nat.not_lt_zero _)⟩ oa sr ?_
 rintro k u ⟨hk, hq⟩
 refine gw ?_
 refine j0 rfl rfl (p9 rfl rfl) (fun h14 => gw ?_) (fun h14 => gw ?_)
 ·refine e6 (i5 uT cT rfl rfl ow (x8 w5) (by rw [show M7 x ++ os.flatMap M7 = (x :: os).flatMap M7 from rfl, wJ, List.length_cons]; omega)) (e6 (a8 rfl (H4 (vs := M7 ((x :: os).getD k C6)) (x8 w5) rT ce58 (Nat.zero_lt_succ _) (GZ (os := (x :: os)) (by rw [List.length_cons]; omega) rfl))) (gw ?_))
  intro b6
  refine j9 rfl (j5 (v := .agg (M7 ((x :: os).getD k C6)).toArray) rfl rfl (by exact ce58) (kO _) (by rfl) (gw ?_))
  refine j0 rfl rfl (M0 (b := 12) rfl rfl) (fun h20 => gw ?_) (fun h20 => gw ?_)
  ·refine a9 (fR ?_)
   exact ⟨(dT (p := dJ os q p x) (.inl (GI (by rw [List.length_cons]; omega) (.inl h20)))).symm, rfl⟩
  ·refine D9 rfl rfl rfl (M0 (b := 12) rfl rfl) (fun h25 => gw ?_) (fun h25 => gw ?_)
   ·refine a9 (fR ?_)
    exact ⟨(dT (p := dJ os q p x) (.inl (GI (by rw [List.length_cons]; omega) (.inr h25)))).symm, rfl⟩
   ·refine ⟨k + 1, ?_, od, oz, sp⟩
    exact ⟨by show _ ≤ _; omega, fun i hi => (Nat.lt_or_ge i k).elim (hq i) (fun h => by (obtain rfl : i = k := by omega); exact fun hb => hb.elim h20 h25)⟩
 ·refine i7 (c8 (gw ?_))
  refine j0 rfl rfl (M0 (b := 20) rfl rfl) (fun h30 => gw ?_) (fun h30 => gw ?_)
  ·refine a9 (fR ?_)
   exact ⟨(dT (p := dJ os q p x) (.inr (.inl h30))).symm, rfl⟩
  ·refine E8 rfl rfl rfl (a8 rfl (i9 (v := sL q.A q.xs.length q.c) N3 oT (tO _ _ _ q.k2))) (gw ?_)
   refine D9 rfl rfl rfl (M0 (b := 30) rfl rfl) (fun h36 => gw ?_) (fun h36 => gw ?_)
   ·refine a9 (fR ?_)
    exact ⟨(dT (p := dJ os q p x) (.inr (.inr (.inl h36)))).symm, rfl⟩
   ·refine E8 rfl rfl rfl (a8 rfl (i9 (v := iI q.many) N3 oT (tO _ _ _ q.k4))) (D9 rfl rfl rfl (mR rfl rfl) (fun h42 => gw ?_) (fun h42 => gw ?_))
    ·refine a9 (fR ?_)
     exact ⟨(dT (p := dJ os q p x) (.inr (.inr (.inr (.inl h42))))).symm, rfl⟩
    ·refine E8 rfl rfl rfl (a8 rfl (i9 (v := sL p.I p.its.length p.i) N3 oT (pW _ _ _ 3 _ p.k3))) (gw ?_)
     refine D9 rfl rfl rfl (M0 (b := 40) rfl rfl) (fun h49 => gw ?_) (fun h49 => gw ?_)
     ·refine a9 (fR ?_)
      exact ⟨(dT (p := dJ os q p x) (.inr (.inr (.inr (.inr (.inl h49)))))).symm, rfl⟩
     ·refine E8 rfl rfl rfl (a8 rfl (i9 (v := sL p.P p.pa.length p.p) N3 oT (pW _ _ _ 27 _ p.k27))) (gw ?_)
      refine D9 rfl rfl rfl (M0 (b := 60) rfl rfl) (fun h56 => gw ?_) (fun h56 => gw ?_)
      ·refine a9 (fR ?_)
       exact ⟨(dT (p := dJ os q p x) (.inr (.inr (.inr (.inr (.inr (.inl h56))))))).symm, rfl⟩
      ·refine E8 rfl rfl rfl (a8 rfl (i9 (v := sL p.Q p.pb.length p.q) N3 oT (pW _ _ _ 28 _ p.k28))) (gw ?_)
       refine D9 rfl rfl rfl (M0 (b := 300) rfl rfl) (fun h63 => gw ?_) (fun h63 => gw ?_)
       ·refine a9 (fR ?_)
        exact ⟨(dT (p := dJ os q p x) (.inr (.inr (.inr (.inr (.inr (.inr (h63)))))))).symm, rfl⟩
       ·refine a9 (fR ?_)
        have hnb := zgI (fun i hi => hq i (by rw [List.length_cons] at hi; omega))
        refine ⟨(dF (p := dJ os q p x) fun h => ?_).symm, rfl⟩
        rcases h with h | h | h | h | h | h | h
        ·exact hnb h
        ·exact h30 h
        ·exact h36 h
        ·exact h42 h
        ·exact h49 h
        ·exact h56 h
        ·exact h63 h
theorem J20 : p8 prog 20 := ⟨_, func20, by kernel_rfl, rfl⟩
theorem J22 : p8 prog 22 := ⟨_, func22, by kernel_rfl, rfl⟩
theorem J24 : p8 prog 24 := ⟨_, func24, by kernel_rfl, rfl⟩
theorem J28 : p8 prog 28 := ⟨_, func28, by kernel_rfl, rfl⟩
theorem J29 : p8 prog 29 := ⟨_, func29, by kernel_rfl, rfl⟩
theorem J32 : p8 prog 32 := ⟨_, func32, by kernel_rfl, rfl⟩
theorem J38 : p8 prog 38 := ⟨_, func38, by kernel_rfl, rfl⟩
theorem rO (q : ReqA) (hk : q.kind = 1) (w0) :
  cP 79 #[.agg q.rq.toArray] w0 fun v L => v = sL q.A q.xs.length q.c ∧ L = [] := by
 refine co 16 [.tmp 2] func79 ?_
 refine gw ?_
 intro b1
 refine gw ?_
 refine e6 (a8 rfl (i9 (v := iI q.kind) w5 oT (q.k1))) (gw ?_)
 refine e6 (Qt.dT (I5 rfl rfl) (hk)) (gw ?_)
 refine e6 (a8 rfl (i9 (v := sL q.A q.xs.length q.c) w5 oT (q.k2))) (gw ?_)
 exact tR
theorem zcc (q : ReqA) (hk : ¬ q.kind = 1) (hk2 : ¬ q.kind = 2) (w0) :
  cP 79 #[.agg q.rq.toArray] w0 fun v L => v = sL none 0 0 ∧ L = [] := by
 refine co 16 [.tmp 2] func79 ?_
 refine gw ?_
 intro b1
 refine gw ?_
 refine e6 (a8 rfl (i9 (v := iI q.kind) w5 oT (q.k1))) (gw ?_)
 refine e6 (Qt.dF (I5 rfl rfl) (hk)) (gw ?_)
 refine e6 (Qt.dF (I5 rfl rfl) (hk2)) (gw ?_)
 exact tR
theorem zcd (q : ReqA) (hk : ¬ q.kind = 1) (hk2 : q.kind = 2) (n : Nat) (hn : q.many = (n : Int)) (h1 : 1 ≤ n) (h2 : n ≤ 256) (hf : q.first + n ≤ 2 ^ 32) (w0) :
  cP 79 #[.agg q.rq.toArray] w0 fun v L => ∃ O d, v = sL O n d ∧ L = [OwnA 40 1 O n d (w6 ((List.range n).map (q.first + ·)))] := by
 refine co 16 [.tmp 2] func79 ?_
 refine gw ?_
 intro b1
 refine gw ?_
 refine e6 (a8 rfl (i9 (v := iI q.kind) w5 oT (q.k1))) (gw ?_)
 refine e6 (Qt.dF (I5 rfl rfl) (hk)) (gw ?_)
 refine e6 (Qt.dT (I5 rfl rfl) (hk2)) (gw ?_)
 refine e6 (a8 rfl (i9 (v := uI (q.first : Int)) w5 oT (q.k3))) (e6 (x9 uT rfl ce3 rfl) (e6 (a8 rfl (i9 (v := iI n) w5 oT ((by rw [← hn]; exact q.k4)))) (z9 en (fun w hw => zbi q.first n h1 h2 hf w) ?_)))
 rintro v L' ⟨O, d, rfl, rfl⟩
 refine gw ?_
 refine a9 (D7 (sx [0]) ?_)
 exact ⟨O, d, rfl, rfl⟩
theorem zcb (q : ReqA) (hk : ¬ q.kind = 1) (hk2 : q.kind = 2) (n : Nat) (hn : q.many = (n : Int)) (h1 : 1 ≤ n) (h2 : n ≤ 256) (hq : q.first < 18446744073709551616) (hf : ¬ q.first + n ≤ 2 ^ 32) (w0) :
  cP 79 #[.agg q.rq.toArray] w0 fun v L => v = sL none 0 0 ∧ L = [] := by
 refine co 16 [.tmp 2] func79 ?_
 refine gw ?_
 intro b1
 refine gw ?_
 refine e6 (a8 rfl (i9 (v := iI q.kind) w5 oT (q.k1))) (gw ?_)
 refine e6 (Qt.dF (I5 rfl rfl) (hk)) (gw ?_)
 refine e6 (Qt.dT (I5 rfl rfl) (hk2)) (gw ?_)
 refine e6 (a8 rfl (i9 (v := uI (q.first : Int)) w5 oT (q.k3))) (e6 (x9 uT rfl ce3 rfl) (e6 (a8 rfl (i9 (v := iI n) w5 oT ((by rw [← hn]; exact q.k4)))) (u7 en (fun w hw => cQ (zaJ q.first n hq h1 h2 hf w)) (gw ?_))))
 exact tR
theorem zce (q : ReqA) (hk : ¬ q.kind = 1) (hk2 : q.kind = 2) (hm : q.many < 1 ∨ 256 < q.many) (w0) :
  cP 79 #[.agg q.rq.toArray] w0 fun v L => v = sL none 0 0 ∧ L = [] := by
 refine co 16 [.tmp 2] func79 ?_
 refine gw ?_
 intro b1
 refine gw ?_
 refine e6 (a8 rfl (i9 (v := iI q.kind) w5 oT (q.k1))) (gw ?_)
 refine e6 (Qt.dF (I5 rfl rfl) (hk)) (gw ?_)
 refine e6 (Qt.dT (I5 rfl rfl) (hk2)) (gw ?_)
 refine e6 (a8 rfl (i9 (v := uI (q.first : Int)) w5 oT (q.k3))) (gw ?_)
 refine e6 (a8 rfl (i9 (v := iI q.many) w5 oT (q.k4))) (u7 en (fun w hw => cQ (zaK q.first q.many hm w)) (gw ?_))
 exact tR
end Go.Proofs.YtgdjcmehlhebdaaGreatDoor
namespace Go.E
theorem lV {f : Nat} : ∀ {k : Nat} {x : Nat × Nat}, x ∈ l4 f k → x.1 < k ∧ x.2 = f / 2 ^ x.1 - 1 ∧ f / 2 ^ x.1 % 2 = 1
 | 0, x, h => by cases h
 | k + 1, x, h => by
  rw [l4] at h
  split at h
  ·rename_i hb
   rcases List.mem_append.1 h with h1 | h1
   ·have := lV h1; exact ⟨by omega, this.2⟩
   ·rw [List.mem_singleton.1 h1]; exact ⟨Nat.lt_succ_self _, rfl, hb⟩
  ·have := lV h; exact ⟨by omega, this.2⟩
theorem lX {b : Nat} : ∀ {k : Nat} {x : Nat × Nat}, x ∈ j6 b k → x.1 < k ∧ x.2 = b / 2 ^ x.1 + 1 ∧ b / 2 ^ x.1 % 2 = 0
 | 0, x, h => by cases h
 | k + 1, x, h => by
  rw [j6] at h
  split at h
  ·rename_i hb
   rcases List.mem_append.1 h with h1 | h1
   ·have := lX h1; exact ⟨by omega, this.2⟩
   ·rw [List.mem_singleton.1 h1]; exact ⟨Nat.lt_succ_self _, rfl, hb⟩
  ·have := lX h; exact ⟨by omega, this.2⟩
theorem qW {f k : Nat} : ∀ {h : Nat}, k ≤ h → ∃ rest, l4 f h = l4 f k ++ rest
  | 0, hk => by obtain rfl : k = 0 := by omega
                exact ⟨[], by simp⟩
  | h + 1, hk => by
    rcases Nat.lt_or_ge k (h + 1) with h1 | h1
    · obtain ⟨rest, e⟩ := qW (f := f) (k := k) (h := h) ow
      by_cases hb : f / 2 ^ h % 2 = 1
      · exact ⟨rest ++ [(h, f / 2 ^ h - 1)], by rw [T9 hb, e, List.append_assoc]⟩
      · exact ⟨rest, by rw [W5 hb, e]⟩
    · obtain rfl : k = h + 1 := by omega
      exact ⟨[], by simp⟩
theorem qZ {b k : Nat} : ∀ {h : Nat}, k ≤ h → ∃ rest, j6 b h = j6 b k ++ rest
  | 0, hk => by obtain rfl : k = 0 := by omega
                exact ⟨[], by simp⟩
  | h + 1, hk => by
    rcases Nat.lt_or_ge k (h + 1) with h1 | h1
    · obtain ⟨rest, e⟩ := qZ (b := b) (k := k) (h := h) ow
      by_cases hb : b / 2 ^ h % 2 = 0
      · exact ⟨rest ++ [(h, b / 2 ^ h + 1)], by rw [U0 hb, e, List.append_assoc]⟩
      · exact ⟨rest, by rw [W6 hb, e]⟩
    · obtain rfl : k = h + 1 := by omega
      exact ⟨[], by simp⟩
theorem pD {s t : Sd} {bs : List i6} {a : Nat × Nat} (hl : (s ++ a :: t).length = bs.length) (h1 : a ∉ s) : look a ((s ++ a :: t).zip bs) = some (bs.getD s.length e7) := by
 refine W0 (0, 0) (k := s.length) (by simp) hl (fun j hj e => h1 ?_) (by simp [List.getD])
 have : (s ++ a :: t).getD j (0, 0) = s[j] := by simp [List.getD, List.getElem?_append_left hj, hj]
 rw [this] at e; rw [← e]; exact List.getElem_mem hj
theorem vY {f k h : Nat} {left : List i6} (hl : (l4 f h).length = left.length) (hk : k < h) (ho : f / 2 ^ k % 2 = 1) : look (k, f / 2 ^ k - 1) ((l4 f h).zip left) = some (left.getD (l4 f k).length e7) := by
 obtain ⟨rest, e⟩ := qW (f := f) (k := k + 1) (h := h) hk
 rw [T9 ho, List.append_assoc] at e
 rw [e] at hl ⊢
 exact pD hl (fun hm => Nat.lt_irrefl _ (lV hm).1)
theorem vZ {b k h : Nat} {right : List i6} (hl : (j6 b h).length = right.length) (hk : k < h) (ho : b / 2 ^ k % 2 = 0) : look (k, b / 2 ^ k + 1) ((j6 b h).zip right) = some (right.getD (j6 b k).length e7) := by
 obtain ⟨rest, e⟩ := qZ (b := b) (k := k + 1) (h := h) hk
 rw [U0 ho, List.append_assoc] at e
 rw [e] at hl ⊢
 exact pD hl (fun hm => Nat.lt_irrefl _ (lX hm).1)
theorem jB {f h k p : Nat} {left : List i6} (hp : f / 2 ^ k ≤ p) : look (k, p) ((l4 f h).zip left) = none :=
 P9 _ _ _ fun hm => by
  obtain ⟨_, h2, h3⟩ := lV hm
  have h2' : p = f / 2 ^ k - 1 := h2
  have h3' : f / 2 ^ k % 2 = 1 := h3
  generalize f / 2 ^ k = n at hp h2' h3'
  omega
theorem nB {b h k p : Nat} {right : List i6} (hp : p ≤ b / 2 ^ k) : look (k, p) ((j6 b h).zip right) = none :=
 P9 _ _ _ fun hm => by
  have h2' : p = b / 2 ^ k + 1 := (lX hm).2.1
  omega
def aC (zl zr : List ((Nat × Nat) × i6)) (ls : List i6) (first : Nat) : Nat → Nat → i6
 | 0, p => match look (0, p) zl with
  | some h => h
  | none => match look (0, p) zr with
   | some h => h
   | none => ls.getD (p - first) e7
 | l + 1, p => match look (l + 1, p) zl with
  | some h => h
  | none => match look (l + 1, p) zr with
   | some h => h
   | none => F8 (l + 1) (aC zl zr ls first l (2 * p)) (aC zl zr ls first l (2 * p + 1))
variable {zl zr : List ((Nat × Nat) × i6)} {ls : List i6} {first l p : Nat}
theorem qS {h : i6} (e : look (l, p) zl = some h) : aC zl zr ls first l p = h := by cases l <;> simp [aC, e]
theorem nG {h : i6} (e0 : look (l, p) zl = none) (e : look (l, p) zr = some h) : aC zl zr ls first l p = h := by cases l <;> simp [aC, e, e0]
theorem zU (e0 : look (0, p) zl = none) (e : look (0, p) zr = none) : aC zl zr ls first 0 p = ls.getD (p - first) e7 := by simp [aC, e, e0]
theorem zS (e0 : look (l + 1, p) zl = none) (e : look (l + 1, p) zr = none) : aC zl zr ls first (l + 1) p = F8 (l + 1) (aC zl zr ls first l (2 * p)) (aC zl zr ls first l (2 * p + 1)) := by simp [aC, e, e0]
def cJ (g : Nat → i6) (a b : Nat) : List i6 := (List.range (b + 1 - a)).map fun i => g (a + i)
theorem Q6 (g : Nat → i6) (a b : Nat) : (cJ g a b).length = b + 1 - a := by simp [cJ]
theorem iH {g : Nat → i6} {a b i : Nat} (h : i < b + 1 - a) : (cJ g a b).getD i e7 = g (a + i) := by simp [cJ, List.getD, h]
theorem zfQ {g : Nat → i6} {a b : Nat} (h0 : 0 < a) (h : a ≤ b + 1) : g (a - 1) :: cJ g a b = cJ g (a - 1) b := by
 refine List.ext_getElem (by simp [cJ]; omega) fun i h1 h2 => ?_
 cases i with
 | zero => simp [cJ]
 | succ i => simp [cJ]; congr 1; omega
theorem zfR {g : Nat → i6} {a b : Nat} (h : a ≤ b + 1) : cJ g a b ++ [g (b + 1)] = cJ g a (b + 1) := by
 unfold cJ
 rw [show b + 1 + 1 - a = (b + 1 - a) + 1 by omega, List.range_succ, List.map_append]
 simp [show a + (b + 1 - a) = b + 1 by omega]
theorem zd9 {g : Nat → i6} {a b i lv : Nat} (hi : i < b + 1 - a) : F8 lv (g (2 * (a + i))) (g (2 * (a + i) + 1)) = F8 lv ((cJ g (2 * a) (2 * b + 1)).getD (2 * i) e7) ((cJ g (2 * a) (2 * b + 1)).getD (2 * i + 1) e7) := by
 rw [iH ow, iH ow]
 congr 2 <;> omega
theorem zhB (g : Nat → i6) (a : Nat) : cJ g a a = [g a] := by simp [cJ, show a + 1 - a = 1 by omega]
structure RowCtx (f n h : Nat) (ls left right : List i6) : Prop where
 n1 : 1 ≤ n
 fit : f + n ≤ 2 ^ h
 len : ls.length = n
 lenL : (l4 f h).length = left.length
 lenR : (j6 (f + n - 1) h).length = right.length
def q9 (f n h : Nat) (ls left right : List i6) (k : Nat) : List i6 := cJ (aC ((l4 f h).zip left) ((j6 (f + n - 1) h).zip right) ls f k) (f / 2 ^ k) ((f + n - 1) / 2 ^ k)
variable {f n h : Nat} {left right : List i6}
theorem RowCtx.le (c : RowCtx f n h ls left right) (k : Nat) : f / 2 ^ k ≤ (f + n - 1) / 2 ^ k := Nat.div_le_div_right (by have := c.n1; omega)
theorem RowCtx.zero (c : RowCtx f n h ls left right) : q9 f n h ls left right 0 = ls := by
 have hl := c.len
 have h1 := c.n1
 refine List.ext_getElem (by rw [q9, Q6]; simp; omega) fun i h2 h3 => ?_
 have h4 : i < (f + n - 1) / 2 ^ 0 + 1 - f / 2 ^ 0 := by simp; omega
 have := iH (g := aC ((l4 f h).zip left) ((j6 (f + n - 1) h).zip right) ls f 0) h4
 rw [tU e7 (by rw [Q6]; exact h4)] at this
 have h5 : (q9 f n h ls left right 0)[i] = aC ((l4 f h).zip left) ((j6 (f + n - 1) h).zip right) ls f 0 (f / 2 ^ 0 + i) := this
 rw [h5, zU (jB (Nat.le_add_right _ _)) (nB (by simp; omega))]
 simp [List.getD, h3]
theorem RowCtx.last (c : RowCtx f n h ls left right) : q9 f n h ls left right h = [aC ((l4 f h).zip left) ((j6 (f + n - 1) h).zip right) ls f h 0] := by
 have h1 := c.n1
 have h2 := c.fit
 rw [q9, Nat.div_eq_of_lt ow, Nat.div_eq_of_lt ow, zhB]
def x4 (f n h : Nat) (ls left right : List i6) (k : Nat) : List i6 :=
 (if f / 2 ^ k % 2 = 1 then [left.getD (l4 f k).length e7] else []) ++ q9 f n h ls left right k ++ (if (f + n - 1) / 2 ^ k % 2 = 0 then [right.getD (j6 (f + n - 1) k).length e7] else [])
theorem RowCtx.mid (c : RowCtx f n h ls left right) {k : Nat} (hk : k < h) :
  x4 f n h ls left right k = cJ (aC ((l4 f h).zip left) ((j6 (f + n - 1) h).zip right) ls f k) (2 * (f / 2 ^ (k + 1))) (2 * ((f + n - 1) / 2 ^ (k + 1)) + 1) := by
 have hle := c.le k
 have ea : f / 2 ^ (k + 1) = f / 2 ^ k / 2 := by rw [v8]
 have eb : (f + n - 1) / 2 ^ (k + 1) = (f + n - 1) / 2 ^ k / 2 := by rw [v8]
 unfold x4 q9
 have hL : ∀ (o : f / 2 ^ k % 2 = 1), left.getD (l4 f k).length e7 = aC ((l4 f h).zip left) ((j6 (f + n - 1) h).zip right) ls f k (f / 2 ^ k - 1) := fun o => (qS (vY c.lenL hk o)).symm
 have hR : ∀ (o : (f + n - 1) / 2 ^ k % 2 = 0), right.getD (j6 (f + n - 1) k).length e7 = aC ((l4 f h).zip left) ((j6 (f + n - 1) h).zip right) ls f k ((f + n - 1) / 2 ^ k + 1) := fun o => (nG (jB ow) (vZ c.lenR hk o)).symm
 generalize aC ((l4 f h).zip left) ((j6 (f + n - 1) h).zip right) ls f k = g at hL hR ⊢
 rw [ea, eb]
 generalize hA : f / 2 ^ k = a at *
 generalize hB : (f + n - 1) / 2 ^ k = b at *
 have e1 : ((if a % 2 = 1 then [left.getD (l4 f k).length e7] else []) ++ cJ g a b : List i6) = cJ g (2 * (a / 2)) b := by
  split
  ·rename_i o
   rw [hL o, List.singleton_append, zfQ ow ow]; congr 1; omega
  ·rename_i o
   rw [List.nil_append]; congr 1; omega
 rw [e1]
 split
 ·rename_i o
  rw [hR o, zfR ow]; congr 1; omega
 ·rename_i o
  rw [List.append_nil]; congr 1; omega
theorem RowCtx.midLen (c : RowCtx f n h ls left right) {k : Nat} (hk : k < h) : (x4 f n h ls left right k).length = 2 * ((f + n - 1) / 2 ^ (k + 1) + 1 - f / 2 ^ (k + 1)) := by
 have := c.le (k + 1)
 rw [c.mid hk, Q6]; omega
theorem zfF {m : Nat} (F : Nat → i6) (ys : List i6) (hl : ys.length = m) (h : ∀ i (hi : i < m), F i = ys.getD i e7) : (List.finRange m).map (fun i : Fin m => F i.val) = ys := by
 refine List.ext_getElem (by rw [List.length_map, List.length_finRange, hl]) fun i h1 h2 => ?_
 have hi : i < m := by simpa using h1
 rw [List.getElem_map, ← tU e7 h2, ← h i hi]
 simp
theorem zfT (g : Nat → i6) {a b m lv : Nat} (hm : m = b + 1 - a) (ys : List i6) (hy : ys = cJ g (2 * a) (2 * b + 1)) : (List.finRange m).map (fun i : Fin m => F8 lv (ys.getD (2 * i.val) e7) (ys.getD (2 * i.val + 1) e7)) = cJ (fun q => F8 lv (g (2 * q)) (g (2 * q + 1))) a b := by
 subst hy
 refine zfF (fun i => F8 lv ((cJ g (2 * a) (2 * b + 1)).getD (2 * i) e7) ((cJ g (2 * a) (2 * b + 1)).getD (2 * i + 1) e7)) _ (by rw [Q6, hm]) fun i hi => ?_
 rw [iH (g := fun q => F8 lv (g (2 * q)) (g (2 * q + 1))) ow]
 exact (zd9 ow).symm
theorem zd8 {g g' : Nat → i6} {a b : Nat} (h : ∀ p, a ≤ p → p ≤ b → g p = g' p) : cJ g a b = cJ g' a b := by
 unfold cJ
 refine List.map_congr_left fun i hi => h _ (Nat.le_add_right _ _) ?_
 have := List.mem_range.1 hi; omega
theorem RowCtx.next (c : RowCtx f n h ls left right) {k m : Nat} (hk : k < h) (hm : m = (f + n - 1) / 2 ^ (k + 1) + 1 - f / 2 ^ (k + 1)) : (List.finRange m).map (fun i : Fin m => F8 (k + 1) ((x4 f n h ls left right k).getD (2 * i.val) e7) ((x4 f n h ls left right k).getD (2 * i.val + 1) e7)) = q9 f n h ls left right (k + 1) := by
 rw [zfT (aC ((l4 f h).zip left) ((j6 (f + n - 1) h).zip right) ls f k) hm _ (c.mid hk)]
 exact zd8 fun p h1 h2 => (zS (jB h1) (nB h2)).symm
theorem jL {f n : Nat} (h1 : 1 ≤ n) : ∀ k, (f + n - 1) / 2 ^ k + 1 - f / 2 ^ k ≤ n ∧ f / 2 ^ k ≤ (f + n - 1) / 2 ^ k
 | 0 => by simp; omega
 | k + 1 => by
  have h := jL (f := f) h1 k
  rw [← v8, ← v8]
  generalize (f + n - 1) / 2 ^ k = b at h ⊢
  generalize f / 2 ^ k = a at h ⊢
  omega
theorem RowCtx.lenAt {f n h : Nat} {ls left right : List i6} (c : RowCtx f n h ls left right) (k : Nat) : 0 < (q9 f n h ls left right k).length ∧ (q9 f n h ls left right k).length ≤ n := by
 have h1 := jL (f := f) c.n1 k
 rw [q9, Q6]
 omega
end Go.E
namespace Go.E
def xO (h f : Nat) (ls left right : List i6) : i6 × Nat := if 1 ≤ ls.length ∧ ls.length ≤ 256 ∧ f + ls.length ≤ 2 ^ h then if (l4 f h).length = left.length ∧ (j6 (f + ls.length - 1) h).length = right.length then (aC ((l4 f h).zip left) ((j6 (f + ls.length - 1) h).zip right) ls f h 0, 0) else (e7, 5) else (e7, 1)
def V4 (z : Int) (f : Nat) (ls left right : List i6) : i6 × Nat := if z < 0 ∨ 32 < z then (e7, 1) else xO z.toNat f ls left right
theorem rB {h : Nat} (hh : h ≤ 32) (f : Nat) (ls left right : List i6) : V4 (h : Int) f ls left right = xO h f ls left right := by rw [V4, if_neg ow, Int.toNat_natCast]
theorem CF {h f : Nat} {ls left right : List i6} (g : ¬ (1 ≤ ls.length ∧ ls.length ≤ 256 ∧ f + ls.length ≤ 2 ^ h)) : xO h f ls left right = (e7, 1) := if_neg g
theorem CG {h f : Nat} {ls left right : List i6} (g : 1 ≤ ls.length ∧ ls.length ≤ 256 ∧ f + ls.length ≤ 2 ^ h) (g2 : ¬ ((l4 f h).length = left.length ∧ (j6 (f + ls.length - 1) h).length = right.length)) : xO h f ls left right = (e7, 5) := by rw [xO, if_pos g, if_neg g2]
theorem CE {h f : Nat} {ls left right : List i6} (g : 1 ≤ ls.length ∧ ls.length ≤ 256 ∧ f + ls.length ≤ 2 ^ h) (g2 : (l4 f h).length = left.length ∧ (j6 (f + ls.length - 1) h).length = right.length) : xO h f ls left right = (aC ((l4 f h).zip left) ((j6 (f + ls.length - 1) h).zip right) ls f h 0, 0) := by rw [xO, if_pos g, if_pos g2]
def NodeOk (zl zr : List ((Nat × Nat) × i6)) (f last l p : Nat) : Prop := (f / 2 ^ l ≤ p ∧ p ≤ last / 2 ^ l) ∨ look (l, p) zl ≠ none ∨ look (l, p) zr ≠ none
theorem NodeOk.kids {f n h : Nat} {ls left right : List i6} (c : RowCtx f n h ls left right) {l p : Nat} (hl : l + 1 ≤ h) (k : NodeOk ((l4 f h).zip left) ((j6 (f + n - 1) h).zip right) f (f + n - 1) (l + 1) p) (e0 : look (l + 1, p) ((l4 f h).zip left) = none) (e1 : look (l + 1, p) ((j6 (f + n - 1) h).zip right) = none) :
  NodeOk ((l4 f h).zip left) ((j6 (f + n - 1) h).zip right) f (f + n - 1) l (2 * p) ∧ NodeOk ((l4 f h).zip left) ((j6 (f + n - 1) h).zip right) f (f + n - 1) l (2 * p + 1) := by
 rcases k with ⟨k1, k2⟩ | k | k
 ·rw [← v8] at k1 k2
  have hle := c.le l
  have hL : f / 2 ^ l % 2 = 1 → look (l, f / 2 ^ l - 1) ((l4 f h).zip left) ≠ none := fun o e => by rw [vY c.lenL hl o] at e; cases e
  have hR : (f + n - 1) / 2 ^ l % 2 = 0 → look (l, (f + n - 1) / 2 ^ l + 1) ((j6 (f + n - 1) h).zip right) ≠ none := fun o e => by rw [vZ c.lenR hl o] at e; cases e
  unfold NodeOk
  generalize f / 2 ^ l = a at *
  generalize (f + n - 1) / 2 ^ l = b at *
  constructor
  ·by_cases g : a ≤ 2 * p
   ·left; omega
   ·right; left
    have := hL ow
    rwa [show 2 * p = a - 1 by omega]
  ·by_cases g : 2 * p + 1 ≤ b
   ·left; omega
   ·right; right
    have := hR ow
    rwa [show 2 * p + 1 = b + 1 by omega]
 ·exact absurd e0 k
 ·exact absurd e1 k
theorem NodeOk.leaf {zl zr : List ((Nat × Nat) × i6)} {f last p : Nat} (k : NodeOk zl zr f last 0 p) (e0 : look (0, p) zl = none) (e1 : look (0, p) zr = none) : f ≤ p ∧ p ≤ last := by
 rcases k with k | k | k
 ·simpa using k
 ·exact absurd e0 k
 ·exact absurd e1 k
theorem NodeOk.root {f n h : Nat} {ls left right : List i6} (c : RowCtx f n h ls left right) : NodeOk ((l4 f h).zip left) ((j6 (f + n - 1) h).zip right) f (f + n - 1) h 0 := by
 have h1 := c.n1
 have h2 := c.fit
 exact .inl ⟨by rw [Nat.div_eq_of_lt ow]; exact Nat.le_refl _, Nat.zero_le _⟩
def JJ (f n h : Nat) (ls left right : List i6) (k : Nat) : List (List UInt8) :=
 (List.range ((f + n - 1) / 2 ^ (k + 1) + 1 - f / 2 ^ (k + 1))).map fun i => x5 (k + 1) ((x4 f n h ls left right k).getD (2 * i) e7) ((x4 f n h ls left right k).getD (2 * i + 1) e7)
def aR (f n h : Nat) (ls left right : List i6) (k : Nat) : List (List UInt8) := (List.range k).flatMap (JJ f n h ls left right)
theorem Z7 (f n h : Nat) (ls left right : List i6) (k : Nat) : aR f n h ls left right (k + 1) = aR f n h ls left right k ++ JJ f n h ls left right k := by
 unfold aR; rw [List.range_succ, List.flatMap_append]; simp
theorem xD (f n h : Nat) (ls left right : List i6) (k : Nat) : (JJ f n h ls left right k).length = (f + n - 1) / 2 ^ (k + 1) + 1 - f / 2 ^ (k + 1) := by simp [JJ]
theorem zej (f n h : Nat) (ls left right ls' left' right' : List i6) : ∀ k, (aR f n h ls left right k).length = (aR f n h ls' left' right' k).length
 | 0 => rfl
 | k + 1 => by rw [Z7, Z7, List.length_append, List.length_append, zej f n h ls left right ls' left' right' k, xD, xD]
theorem lY {f n h : Nat} (h1 : 1 ≤ n) (ls left right : List i6) : ∀ k, (aR f n h ls left right k).length ≤ n * k
 | 0 => Nat.zero_le _
 | k + 1 => by
  have i := lY (f := f) (h := h) h1 ls left right k
  have j := (jL (f := f) h1 (k + 1)).1
  rw [Z7, List.length_append, xD, Nat.mul_succ]; omega
variable {f n h : Nat} {ls left right ls' left' right' : List i6}
theorem xP {z : Int} (hz : (V4 z f ls left right).2 = 0) : ∃ h : Nat, z = (h : Int) ∧ h ≤ 32 ∧ ls.length ≤ 256 ∧ RowCtx f ls.length h ls left right ∧ (V4 z f ls left right).1 = aC ((l4 f h).zip left) ((j6 (f + ls.length - 1) h).zip right) ls f h 0 := by
 by_cases hb : z < 0 ∨ 32 < z
 ·rw [V4, if_pos hb] at hz; exact absurd hz (by decide)
 ·obtain ⟨h, rfl⟩ : ∃ n : Nat, z = (n : Int) := ⟨z.toNat, by omega⟩
  have hh : h ≤ 32 := by omega
  rw [rB hh] at hz ⊢
  by_cases g : 1 ≤ ls.length ∧ ls.length ≤ 256 ∧ f + ls.length ≤ 2 ^ h
  ·by_cases g2 : (l4 f h).length = left.length ∧ (j6 (f + ls.length - 1) h).length = right.length
   ·exact ⟨h, rfl, hh, g.2.1, ⟨g.1, g.2.2, rfl, g2.1, g2.2⟩, by rw [CE g g2]⟩
   ·rw [CG g g2] at hz; exact absurd hz (by decide)
  ·rw [CF g] at hz; exact absurd hz (by decide)
end Go.E
namespace Go.E
abbrev Hx := y8 × Nat × List i6
def zA : Hx := (none, 0, [])
def LC (t : Hx) : List Value := [.slice t.1 t.2.2.length t.2.1]
theorem IX (ss : List Hx) : (ss.flatMap LC).length = ss.length := by
 induction ss with
 | nil => rfl
 | cons t ts ih => rw [List.flatMap_cons, List.length_append, ih]; simp [LC]; omega
theorem KI {ss : List Hx} {k : Nat} (h : k < ss.length) : (ss.flatMap LC)[k * 1]? = some (.slice (ss.getD k zA).1 (ss.getD k zA).2.2.length (ss.getD k zA).2.1) := by
 have := aW (encL := LC) (sz := 1) (fun _ => rfl) ss k _ (getD_some zA h) 0 _ rfl
 rwa [Nat.add_zero] at this
def jT (ss : List Hx) (k : Nat) : List i6 := (ss.take k).flatMap fun t => t.2.2
theorem DC {ss : List Hx} {k : Nat} (h : k < ss.length) : jT ss (k + 1) = jT ss k ++ (ss.getD k zA).2.2 := by
 unfold jT
 rw [List.take_succ_eq_append_getElem h, List.flatMap_append]
 simp [List.getD, h]
theorem BI {ss : List Hx} {k : Nat} (h : k < ss.length) : (jT ss (k + 1)).length = (jT ss k).length + (ss.getD k zA).2.2.length := by rw [DC h, List.length_append]
theorem IU (ss : List Hx) : ∀ {j k : Nat}, j ≤ k → k ≤ ss.length → (jT ss j).length ≤ (jT ss k).length
 | j, k, h, hk => by
  obtain ⟨d, rfl⟩ := Nat.le.dest h
  clear h
  induction d with
  | zero => exact Nat.le_refl _
  | succ d ih => have := BI (ss := ss) (k := j + d) ow; have := ih ow; rw [← Nat.add_assoc]; omega
theorem cO {α : Type} (m : Nat) (g : Nat → α) : (List.finRange m).map (fun i : Fin m => g i.val) = (List.range m).map g := by
 refine List.ext_getElem (by simp) fun i h1 h2 => by simp
def L6 (z : Int) (f : Nat) (ls left right : List i6) : Option (List (List UInt8)) := if (V4 z f ls left right).2 = 0 then some (aR f ls.length z.toNat ls left right z.toNat) else none
theorem Ro.inMany {w : World} {M : List Nat} {A : Assn} {Ls : List Assn} (h : Ro w M (C1 Ls)) (hA : A ∈ Ls) : Ro w M A := ⟨h.1 A hA, fun b hb => h.2 b (cU.2 ⟨A, hA, hb⟩)⟩
theorem KL {C : Ctx} {L Ls : List Assn} {e : TypeId} {sz n c : Nat} {A : y8} {cs : List Value} (h : Rd C L (C1 Ls)) (hx : OwnA e sz A n c cs ∈ Ls ∨ Ro C.w0 C.M (SlA A cs)) : Rd C L (SlA A cs) := hx.elim (fun m => (h.many m).own) Rd.ro
theorem zjB {w0 w : World} {M : List Nat} {Pre R Ls : List Assn} {e : TypeId} {sz n c : Nat} {A : y8} {cs : List Value} (hw : St w0 M (Pre ++ R) w) (hm : C1 Ls ∈ R) (hx : OwnA e sz A n c cs ∈ Ls ∨ Ro w0 M (SlA A cs)) : Ro w (A8 Pre) (SlA A cs) := hx.elim (fun m => ((y9 hw hm).inMany m).own) (u5 hw)
theorem iV {C : Ctx} {Q : EQ} {env : Env} {ops : Array Oper} {l : List Oper} {A : Assn} {L : List Assn} (h : TL C ops Q l env (C1 [A] :: L)) : TL C ops Q l env (A :: L) := fun a w ha hw => h a w ha (St.many.2 hw)
theorem JP {a x y : Value} : ∀ j v, [x, y][j]? = some v → [a, x, y][1 + j]? = some v := fun j v h => by rw [Nat.add_comm]; exact h
theorem qG {l : List i6} {i : Nat} (h : i < l.length) : (m9 (l.drop i)).take 32 = m9 [l.getD i e7] := by
 rw [List.drop_eq_getElem_cons h, N6, List.take_left' (l6 _)]
 simp [m9, List.getD, h]
theorem nO {x y : Value} (hx : (vl x).length = 1) (hy : (vl y).length = 1) : ∀ v ∈ [x, y], (vl v).length = 1 := fun v hv => (List.mem_cons.1 hv).elim (fun e => e ▸ hx) (fun h => List.mem_singleton.1 h ▸ hy)
theorem V3 {f n h k : Nat} {ls left right : List i6} {tt : List Tx} (h1 : 1 ≤ n) (h2 : n ≤ 256) (hk : k ≤ 32) (e : tt.map (fun t => t.2.2) = aR f n h ls left right k) : tt.length ≤ 8192 := by
 have a := congrArg List.length e
 rw [List.length_map] at a
 have b := lY (f := f) (h := h) h1 ls left right k
 have c : n * k ≤ 256 * 32 := Nat.mul_le_mul h2 hk
 omega
theorem EX (z : Int) (f : Nat) (ls left right : List i6) : HW (L6 z f ls left right) := fun xs h t ht => by
 unfold L6 at h
 split at h
 ·obtain rfl := Option.some.inj h
  unfold aR at ht
  obtain ⟨k, _, hk⟩ := List.mem_flatMap.1 ht
  obtain ⟨i, _, rfl⟩ := List.mem_map.1 hk
  rw [L9]; decide
 ·cases h
variable {f n h : Nat} {ls left right : List i6}
theorem zek (c : RowCtx f n h ls left right) {j i : Nat} (hi : f / 2 ^ (j + 1) + i ≤ (f + n - 1) / 2 ^ (j + 1)) : f / 2 ^ (j + 1) + i < 2 ^ h := by
 have h1 := Nat.div_le_self (f + n - 1) (2 ^ (j + 1))
 have h2 := c.fit
 have h3 := c.n1
 omega
theorem HN (c : RowCtx f n h ls left right) {j i : Nat} (hj : j < h) (hi : f / 2 ^ (j + 1) + i ≤ (f + n - 1) / 2 ^ (j + 1)) : N0 h (j, 2 * (f / 2 ^ (j + 1) + i)) ∧ N0 h (j, 2 * (f / 2 ^ (j + 1) + i) + 1) := by
 refine bG ⟨hj, ?_⟩
 show f / 2 ^ (j + 1) + i < 2 ^ (h - (j + 1))
 refine Nat.lt_of_le_of_lt hi (Nat.div_lt_of_lt_mul ?_)
 rw [← Nat.pow_add, show j + 1 + (h - (j + 1)) = h by omega]
 have h2 := c.fit
 have h3 := c.n1
 omega
theorem xL (c : RowCtx f n h ls left right) {j i : Nat} (hj : j < h) (hi : f / 2 ^ (j + 1) + i ≤ (f + n - 1) / 2 ^ (j + 1)) :
  NodeOk ((l4 f h).zip left) ((j6 (f + n - 1) h).zip right) f (f + n - 1) j (2 * (f / 2 ^ (j + 1) + i)) ∧ NodeOk ((l4 f h).zip left) ((j6 (f + n - 1) h).zip right) f (f + n - 1) j (2 * (f / 2 ^ (j + 1) + i) + 1) :=
 NodeOk.kids c hj (.inl ⟨Nat.le_add_right _ _, hi⟩) (jB (Nat.le_add_right _ _)) (nB hi)
theorem EZ (c : RowCtx f n h ls left right) {j i : Nat} (hj : j < h) (hi : f / 2 ^ (j + 1) + i ≤ (f + n - 1) / 2 ^ (j + 1)) :
  aC ((l4 f h).zip left) ((j6 (f + n - 1) h).zip right) ls f j (2 * (f / 2 ^ (j + 1) + i)) = (x4 f n h ls left right j).getD (2 * i) e7 ∧ aC ((l4 f h).zip left) ((j6 (f + n - 1) h).zip right) ls f j (2 * (f / 2 ^ (j + 1) + i) + 1) = (x4 f n h ls left right j).getD (2 * i + 1) e7 := by
 rw [c.mid hj, iH ow, iH ow]
 exact ⟨congrArg _ ow, congrArg _ ow⟩
def sX (f n h : Nat) (ls left right : List i6) (k i : Nat) : List (List UInt8) := (List.range i).map fun i => x5 (k + 1) ((x4 f n h ls left right k).getD (2 * i) e7) ((x4 f n h ls left right k).getD (2 * i + 1) e7)
theorem zeb (f n h : Nat) (ls left right : List i6) (k i : Nat) : sX f n h ls left right k (i + 1) = sX f n h ls left right k i ++ [x5 (k + 1) ((x4 f n h ls left right k).getD (2 * i) e7) ((x4 f n h ls left right k).getD (2 * i + 1) e7)] := by
 unfold sX; rw [List.range_succ, List.map_append]; rfl
theorem zea (c : RowCtx f n h ls left right) {k i : Nat} (h1 : ¬ f / 2 ^ (k + 1) + i ≤ (f + n - 1) / 2 ^ (k + 1)) (h2 : i ≤ (f + n - 1) / 2 ^ (k + 1) + 1 - f / 2 ^ (k + 1)) : sX f n h ls left right k i = JJ f n h ls left right k := by
 obtain rfl : i = (f + n - 1) / 2 ^ (k + 1) + 1 - f / 2 ^ (k + 1) := by omega
 rfl
theorem zfS (f n h : Nat) (ls left right : List i6) (k i : Nat) : (sX f n h ls left right k i).length = i := by simp [sX]
theorem zel (c : RowCtx f n h ls left right) (h2 : n ≤ 256) (hh : h ≤ 32) {k i : Nat} {tt : List Tx} (hk : k < h) (hi : i ≤ (f + n - 1) / 2 ^ (k + 1) + 1 - f / 2 ^ (k + 1)) (e : tt.map (fun t => t.2.2) = aR f n h ls left right k ++ sX f n h ls left right k i) : tt.length ≤ 8448 := by
 have a := congrArg List.length e
 rw [List.length_map, List.length_append, zfS] at a
 have b := lY (f := f) (h := h) c.n1 ls left right k
 have d : n * k ≤ 256 * 32 := Nat.mul_le_mul h2 ow
 have g := (jL (f := f) c.n1 (k + 1)).1
 omega
theorem zf4 {a b i : Nat} (h : a + i ≤ b) : i + 1 ≤ b + 1 - a := by omega
theorem zhK {a b i : Nat} (h : a + i ≤ b) : b + 1 - a - (i + 1) < b + 1 - a - i := by omega
end Go.E
namespace Go.E
theorem zhL {z : Int} {f : Nat} {ls left right ls' left' right' : List i6} : ∀ p ∈ (if ls.length = ls'.length then D4 (L6 z f ls left right) (L6 z f ls' left' right') else []), p.1.length ≤ 70368744177664 ∧ p.2.length ≤ 70368744177664 := fun p hp => by
 split at hp
 ·exact kQ (EX _ _ _ _ _) (EX _ _ _ _ _) p hp
 ·cases hp
theorem zjb {E : Nat → i6} {gh : Nat} {g : Nat → i6} {ms : Tm} (ht : TreeOk E gh g ms) {is : List Nat} (hs : ∀ p, g p ≠ E 0 → p ∈ is) (hl : is.length < 4294967296) : (iA (o9 ms)).length < 4294967296 := by
 have h1 : (fX ms).Nodup := (DU ht.nodup).imp fun {a b} h => Nat.ne_of_lt h
 have h2 := qP h1 fun p hp => hs p (ht.lv.1 hp).2
 have h3 : (fX ms).length = (iA (o9 ms)).length := (iK _).length_eq
 omega
abbrev Sm := List (Nat × Sealed)
def Z0 (S : Sm) (i : Nat) : Item := match look i S with
 | some s => ⟨true, s⟩
 | none => ⟨false, A4⟩
def gS (S : Sm) (i : Nat) : i6 := K3 (H9 i (Z0 S i))
theorem DP {S : Sm} {i : Nat} (h : look i S = none) : Z0 S i = ⟨false, A4⟩ := by rw [Z0, h]
theorem tT {S : Sm} {i : Nat} (h : look i S = none) : gS S i = K3 [0] := by rw [gS, DP h]; rfl
theorem zjh : gS [] = fun _ => K3 [0] := funext fun i => tT rfl
def eW (o : Order) (k : Nat) : i6 := if o.kind = 1 then K3 (R6 (o.xs.getD k 0) (o.ss.getD k A4)) else K3 [0]
def iM (o : Order) (S : Sm) (k : Nat) : Sm := if o.kind = 1 then gQ (o.xs.getD k 0) (o.ss.getD k A4) (Y9 (o.xs.getD k 0) S) else Y9 (o.xs.getD k 0) S
def kV (o : Order) (S : Sm) : Nat → Sm
 | 0 => S
 | k + 1 => iM o (kV o S k) k
theorem tF {o : Order} {S : Sm} {k : Nat} (h : (o9 S).Nodup) : (o9 (iM o S k)).Nodup := by
 unfold iM; split
 ·exact lQ _ _ (iD _ h)
 ·exact iD _ h
theorem qN {o : Order} {S : Sm} {k : Nat} (h : (o9 S).Nodup) (p : Nat) : look p (iM o S k) = if p = o.xs.getD k 0 then (if o.kind = 1 then some (o.ss.getD k A4) else none) else look p S := by
 unfold iM
 split
 ·rw [pE, kI _ _ h]
  by_cases hp : p = o.xs.getD k 0
  ·rw [if_pos hp, if_pos hp]
  ·rw [if_neg hp, if_neg hp, if_neg hp]
 ·rw [kI _ _ h]
theorem ziq {o : Order} {S : Sm} {k : Nat} (h : (o9 S).Nodup) : gS (iM o S k) = CJ (gS S) (o.xs.getD k 0) (eW o k) := funext fun p => by
 unfold CJ gS Z0
 rw [qN h]
 by_cases hp : p = o.xs.getD k 0
 ·rw [if_pos hp, if_pos hp]
  unfold eW
  by_cases hk : o.kind = 1
  ·rw [if_pos hk, if_pos hk, hp]; rfl
  ·rw [if_neg hk, if_neg hk]; rfl
 ·rw [if_neg hp, if_neg hp]
theorem zf6 (o : Order) (S : Sm) (k : Nat) : (iM o S k).length ≤ S.length + 1 := by
 have hk : ∀ (M : Sm), (o9 M).length = M.length := fun M => by simp [o9]
 have hd : ∀ (x : Nat) (M : Sm), (Y9 x M).length ≤ M.length := fun x M => by
  induction M with
  | nil => exact Nat.le_refl _
  | cons e M ih =>
   rw [Y9]
   split
   ·exact Nat.le_succ _
   ·rw [List.length_cons, List.length_cons]; omega
 unfold iM
 split
 ·have h1 := vW (o.xs.getD k 0) (o.ss.getD k A4) (Y9 (o.xs.getD k 0) S)
  have h2 := hd (o.xs.getD k 0) S
  rw [← hk, h1]
  split
  ·rw [hk]; omega
  ·rw [List.length_append, hk, List.length_singleton]; omega
 ·have := hd (o.xs.getD k 0) S; omega
theorem zf7 {o : Order} {S : Sm} {k n : Nat} (hn : (o9 S).Nodup) (h : ∀ i ∈ o9 S, i < n) (hk : o.xs.getD k 0 < n) : ∀ i ∈ o9 (iM o S k), i < n := fun i hi => by
 by_cases hp : i = o.xs.getD k 0
 ·omega
 ·refine h i (Decidable.byContradiction fun h2 => ?_)
  have h3 := P3.2 h2
  have h4 := qN (o := o) (k := k) hn i
  rw [if_neg hp, h3] at h4
  exact (P3.1 h4) hi
def dH (b : Nat) (S : Sm) : Sm := S.filter fun e => decide (e.1 < b)
structure TruOk (E : Nat → i6) (n : Nat) (S : Sm) (ms : Tm) (c : Nat) : Prop where
 on : fE n
 ok : TreeOk E (s7 n) (gS S) ms
 nd : (o9 S).Nodup
 low : ∀ i ∈ o9 S, i < n
 len : S.length ≤ c
theorem zeB {E : Nat → i6} (hE : ∀ h, E (h + 1) = F8 (h + 1) (E h) (E h)) (hE0 : E 0 = K3 [0]) {n : Nat} (h : fE n) : TruOk E n [] [] 0 :=
 ⟨h, by rw [zjh, ← hE0]; exact oA hE _, List.nodup_nil, (fun i hi => by cases hi), Nat.zero_le _⟩
theorem TruOk.mono {E : Nat → i6} {n : Nat} {S : Sm} {ms : Tm} {c d : Nat} (h : TruOk E n S ms c) (hd : c ≤ d) : TruOk E n S ms d := ⟨h.on, h.ok, h.nd, h.low, Nat.le_trans h.len hd⟩
theorem TruOk.cnt {E : Nat → i6} (hE0 : E 0 = K3 [0]) {n : Nat} {S : Sm} {ms : Tm} {c : Nat} (h : TruOk E n S ms c) (hc : c < 4294967296) : (iA (o9 ms)).length < 4294967296 :=
 zjb h.ok (is := o9 S) (fun p hp => Decidable.byContradiction fun hm => hp (by rw [hE0]; exact tT (P3.2 hm))) (by simp only [o9, List.length_map]; have := h.len; omega)
theorem TruOk.step {E : Nat → i6} {n : Nat} {S : Sm} {ms : Tm} {c : Nat} (h : TruOk E n S ms c) {o : Order} {k : Nat} (hk : o.xs.getD k 0 < n) : TruOk E n (iM o S k) (mG E ms (o.xs.getD k 0) (eW o k) (s7 n)) (c + 1) :=
 ⟨h.on, by rw [ziq h.nd]; exact h.ok.set (by have := gK h.on; omega) _, tF h.nd, zf7 h.nd h.low hk, by have := zf6 o S k; have := h.len; omega⟩
theorem eC {b : Nat} {p : Nat} : ∀ {S : Sm}, look p (dH b S) = if p < b then look p S else none
 | [] => by simp [dH, U8]
 | e :: S => by
  have ih := eC (b := b) (p := p) (S := S)
  unfold dH at ih ⊢
  rw [List.filter_cons]
  by_cases hb : e.1 < b
  ·rw [if_pos (by simpa using hb), A6, A6, ih]
   by_cases hp : p = e.1
   ·rw [if_pos hp, if_pos ow, if_pos hp]
   ·rw [if_neg hp, if_neg hp]
  ·rw [if_neg (by simpa using hb), A6, ih]
   by_cases hp : p = e.1
   ·rw [if_neg ow, if_neg ow]
   ·rw [if_neg hp]
theorem zjg {E : Nat → i6} (hE0 : E 0 = K3 [0]) {n : Nat} {S : Sm} {ms : Tm} {c : Nat} (h : TruOk E n S ms c) (b : Nat) : gS (dH b S) = tJ E (gS S) (fX ms) b := funext fun p => by
 by_cases hb : p < b
 ·by_cases hp : p < 2 ^ s7 n
  ·rw [zii h.ok hp hb]
   unfold gS Z0
   rw [eC, if_pos hb]
  ·rw [DD h.ok (.inl ow), hE0]
   refine tT ?_
   rw [eC, if_pos hb]
   exact P3.2 fun hm => by have := h.low p hm; have := gK h.on; omega
 ·rw [DD h.ok (.inr ow), hE0]
  exact tT (by rw [eC, if_neg hb])
theorem TruOk.cut {E : Nat → i6} (hE0 : E 0 = K3 [0]) {n : Nat} {S : Sm} {ms ms2 : Tm} {c : Nat} (h : TruOk E n S ms c) {b : Nat} (hb : fE b) (h2 : TreeOk E (s7 b) (tJ E (gS S) (fX ms) b) ms2) : TruOk E b (dH b S) ms2 c :=
 ⟨hb, by rw [zjg hE0 h]; exact h2, (List.filter_sublist.map _).nodup h.nd, fun i hi => by
  obtain ⟨e, he, rfl⟩ := List.mem_map.1 hi
  simpa using (List.mem_filter.1 he).2, Nat.le_trans (List.length_filter_le _ _) h.len⟩
def BK (o : Order) (n : Nat) : Nat := if T6 o n ∧ o.kind = 3 then o.blocks else n
def CN (o : Order) (n : Nat) (S : Sm) : Sm := if T6 o n then (if o.kind = 3 then dH o.blocks S else kV o S o.xs.length) else S
def tI (q : Nat) (ms : Sm) (done : List Nat) : Sm := ms.filter fun p => !(decide (p.1 ∈ done) && decide (q ≤ p.1))
theorem zgR (q : Nat) (ms : Sm) : tI q ms [] = ms := by simp [tI]
theorem zeO {q k : Nat} (ms : Sm) (done : List Nat) (h : ¬ q ≤ k) : tI q ms (done ++ [k]) = tI q ms done := by
 refine List.filter_congr fun p hp => ?_
 by_cases h1 : q ≤ p.1
 ·have : p.1 ≠ k := fun e => h (e ▸ h1)
  simp [h1, this]
 ·simp [h1]
theorem zgP {q k : Nat} {ms : Sm} (hn : (o9 ms).Nodup) (done : List Nat) (h : q ≤ k) : Y9 k (tI q ms done) = tI q ms (done ++ [k]) := by
 have hc : (o9 (tI q ms done)).Nodup := zcz _ hn
 rw [rZ k hc]
 unfold tI
 rw [List.filter_filter]
 refine List.filter_congr fun p hp => ?_
 by_cases h1 : p.1 = k
 ·simp [h1, h]
 ·simp [h1]
theorem zgQ {q : Nat} {ms : Sm} {done : List Nat} (h : ∀ p ∈ tI q ms done, p.1 ∈ done) : tI q ms done = dH q ms := by
 refine List.filter_congr fun p hp => ?_
 by_cases h1 : p.1 < q
 ·have : ¬ q ≤ p.1 := by omega
  simp [h1, this]
 ·have h2 : q ≤ p.1 := by omega
  by_cases h3 : p.1 ∈ done
  ·simp [h1, h2, h3]
  ·exact absurd (h p (List.mem_filter.2 ⟨hp, by simp [h3]⟩)) h3
theorem oF {q : Nat} {ms : Sm} {done : List Nat} {p : Nat × Sealed} (h : p ∈ tI q ms done) : p ∈ ms := (List.mem_filter.1 h).1
theorem and32 {n : Nat} (h : n < 4294967296) : Value.int .u64 ((n &&& 4294967295 : Nat) : Int) = .int .u64 (n : Int) := by
 have e := Nat.and_two_pow_sub_one_eq_mod n 32
 have e2 : n &&& 4294967295 = n := by rw [show (4294967295 : Nat) = 2 ^ 32 - 1 from rfl, e]; omega
 rw [e2]
theorem shr32 {n : Nat} (h : n < 4294967296) : Value.int .u64 ((n / 2 ^ 32 : Nat) : Int) = .int .u64 ((0 : Nat) : Int) := by
 rw [Nat.div_eq_of_lt ow]
def hH (o : Order) (z : i6) (k : Nat) : List i6 := (List.range o.xs.length).map fun j => if j < k then K3 (R6 (o.xs.getD j 0) (o.ss.getD j A4)) else z
theorem lM (o : Order) (z : i6) (k : Nat) : (hH o z k).length = o.xs.length := by simp [hH]
theorem zdM (o : Order) (z : i6) : hH o z 0 = List.replicate o.xs.length z := by
 refine List.ext_getElem (by simp [hH]) fun i h1 h2 => ?_
 simp [hH]
theorem zfk (o : Order) (z : i6) {k : Nat} (h : k < o.xs.length) : (hH o z k).set k (K3 (R6 (o.xs.getD k 0) (o.ss.getD k A4))) = hH o z (k + 1) := by
 refine List.ext_getElem (by simp [hH]) fun i h1 h2 => ?_
 rw [List.getElem_set]
 by_cases hi : k = i
 ·subst hi; simp [hH]
 ·rw [if_neg hi]
  simp only [hH, List.getElem_map, List.getElem_range]
  by_cases h3 : i < k
  ·rw [if_pos h3, if_pos ow]
  ·rw [if_neg h3, if_neg ow]
theorem zfj {o : Order} (h : A7 o) (hk : o.kind ≠ 3) : hH o (K3 [0]) o.ss.length = (List.range o.xs.length).map (eW o) := by
 refine List.map_congr_left fun j hj => ?_
 have hj := List.mem_range.1 hj
 unfold eW
 rcases h with ⟨h1, _, _, h4, _⟩ | ⟨h1, _, _, h4⟩ | ⟨h1, _⟩
 ·rw [if_pos ow, if_pos h1]
 ·rw [if_neg ow, if_neg (by rw [h1]; decide)]
 ·exact absurd h1 hk
theorem zhx {o : Order} (h : A7 o) (hk : o.kind ≠ 3) : o.ss.length ≤ o.xs.length ∧ idxOk 32 o.xs := by
 rcases h with ⟨h1, _, h3, h4, _⟩ | ⟨h1, _, h3, h4⟩ | ⟨h1, _⟩
 ·exact ⟨by omega, h3⟩
 ·exact ⟨by omega, h3⟩
 ·exact absurd h1 hk
theorem dV (h : i6) (k : Nat) : (m9 (List.replicate k h)).length = k * 32 := by rw [m7, List.length_replicate]
theorem zcv (h : i6) (j k : Nat) : m9 (List.replicate j h) ++ m9 (List.replicate k h) = m9 (List.replicate (j + k) h) := by rw [← M3, List.replicate_append_replicate]
theorem zhr (h : i6) (rest : List Value) (k j n : Nat) (hr : rest.length = (n - k) * 32) (hj : j ≤ n - k) :
  (m9 (List.replicate k h) ++ rest).take (k * 32) ++ m9 (List.replicate j h) ++ (m9 (List.replicate k h) ++ rest).drop (k * 32 + (m9 (List.replicate j h)).length) = m9 (List.replicate (k + j) h) ++ rest.drop (j * 32) := by
 rw [dV, List.take_left' (dV h k), zcv, ← List.drop_drop, List.drop_left' (dV h k)]
theorem zjC {o : Order} {M : Sm} {k : Nat} (h : o.kind = 1) : kV o M (k + 1) = gQ (o.xs.getD k 0) (o.ss.getD k A4) (Y9 (o.xs.getD k 0) (kV o M k)) := by rw [kV, iM, if_pos h]
theorem zjD {o : Order} {M : Sm} {k : Nat} (h : ¬ o.kind = 1) : kV o M (k + 1) = Y9 (o.xs.getD k 0) (kV o M k) := by rw [kV, iM, if_neg h]
theorem DS (o : Order) {k : Nat} (h : k < o.xs.length) : ((List.range o.xs.length).map (eW o)).getD k e7 = eW o k := by simp [List.getD, h]
theorem jJ {o : Order} (h : A7 o) (hk : o.kind = 1) : o.ss.length = o.xs.length := by
 rcases h with ⟨_, _, _, h4, _⟩ | ⟨h1, _⟩ | ⟨h1, _⟩
 ·exact h4
 ·omega
 ·omega
def yC (o : Order) (n : Nat) : Nat := if T6 o n then 0 else if A7 o then 1 else 2
end Go.E
namespace Go.Proofs.YtgdjcmehlhebdaaGreatDoor
open _root_.Go.Proofs.Tryz
open Go.E
set_option maxRecDepth 4000
theorem zfd (x : i6) (xs : List i6) (cs : List Value) : (L8 x ++ cs.drop 32).take 32 ++ m9 xs ++ (L8 x ++ cs.drop 32).drop (32 + (m9 xs).length) = m9 (x :: xs) ++ cs.drop ((xs.length + 1) * 32) := by
 rw [List.take_left' (l6 x), ← List.drop_drop, List.drop_left' (l6 x), List.drop_drop, m7, N6, show 32 + xs.length * 32 = (xs.length + 1) * 32 by omega]
theorem zdK (x : i6) (xs : List i6) (cs r : List Value) (h : 32 ≤ cs.length) : (cs.take 32 ++ m9 xs ++ r).take 0 ++ L8 x ++ (cs.take 32 ++ m9 xs ++ r).drop (0 + (L8 x).length) = m9 (x :: xs) ++ r := by
 rw [List.take_zero, List.nil_append, Nat.zero_add, l6, List.append_assoc (cs.take 32), List.drop_left' (by rw [List.length_take]; omega), N6, List.append_assoc]
theorem yG {C : Ctx} {L : List Assn} {b k : Nat} {T : TypeId} {cs ys : List Value} (h : Has C L (Blk b T cs)) (e : cs.take k = ys) : Has C L (SlA (some ⟨b, 0, none⟩) ys) := e ▸ CP (j8 h) k
theorem TL.shutOwn {C : Ctx} {Q : EQ} {env : Env} {ops : Array Oper} {l : List Oper} {L0 L : List Assn} {e : TypeId} {sz g n c : Nat} {cs : List Value} (hl : cs.length = c * sz) (hn : n ≤ c) (hm : c ≤ maxLen) (s : L0.Perm (Blk g e cs :: L)) (h : TL C ops Q l env (OwnA e sz (some ⟨g, 0, none⟩) n c (cs.take (n * sz)) :: L)) : TL C ops Q l env L0 :=
 fun a w ha hw => h a w ha ((hw.perm s).shutOwn hl hn hm)
theorem zfe (A : y8) (c : Nat) (xs : List i6) (gv : Nat) (x : i6) (h0 : 0 < xs.length) (hm : xs.length ≤ 65536) (hg : c < xs.length + 1) (w0 : World) (hL : Sat w0 [OwnA 49 32 A xs.length c (m9 xs)]) (hV : Ro w0 (A8 [OwnA 49 32 A xs.length c (m9 xs)]) (Blk gv 49 (L8 x))) :
    Calls prog 65 #[.slice A xs.length c, .int .i64 ((0 : Nat) : Int), .slice (some ⟨gv, 0, none⟩) 1 1] w0 (D0 w0 (A8 [OwnA 49 32 A xs.length c (m9 xs)]) fun v L => ∃ O d, v = .slice O (xs.length + 1) d ∧ L = [OwnA 49 32 O (xs.length + 1) d (m9 (x :: xs))]) := by
  refine N4 (L := [OwnA 49 32 A xs.length c (m9 xs)]) (n := 95) (rs := [.tmp 6]) func65 rfl rfl rfl (Nat.le_of_ble_eq_true rfl) (hL) ?_
  refine mS (fun hA hz _ _ => absurd hz ow) (fun g cs hO hct hcl hnc hcm => ?_)
  subst hO
  have hgv : gv ≠ g := fun e => by have q := hV.2 gv (List.mem_singleton.2 rfl); subst e; exact q.2 (by simp [A8, OwnA, Value.ownBlock])
  have hcx : (m9 xs).length = xs.length * 32 := m7 xs
  refine c8 ?_
  refine c7 ?_
  refine C3 ?_
  refine l3 ?_
  refine c8 ?_
  refine c7 ?_
  refine o8 ?_
  refine o8 ?_
  refine e6 (D3 uT cT rfl rfl ow) ?_
  refine l3 ?_
  refine c8 ?_
  refine c7 ?_
  refine o8 ?_
  refine e6 (D6 uT rfl) ?_
  refine C3 ?_
  refine l3 ?_
  refine c8 ?_
  refine c8 ?_
  refine c7 ?_
  refine o8 ?_
  refine e6 (Qt.dF (z6 (b := 0) rfl rfl) (by decide)) ?_
  refine l3 ?_
  refine C4 rfl ?_
  refine w8 ?_
  refine c8 ?_
  refine c7 ?_
  refine o8 ?_
  refine e6 (D6 uT rfl) ?_
  refine C3 ?_
  refine l3 ?_
  refine c8 ?_
  refine c8 ?_
  refine c7 ?_
  refine o8 ?_
  refine o8 ?_
  refine e6 (Qt.dF (z6 rfl rfl) ow) ?_
  refine l3 ?_
  refine C4 rfl ?_
  refine w8 ?_
  refine c8 ?_
  refine c8 ?_
  refine c7 ?_
  refine o8 ?_
  refine o8 ?_
  refine e6 (v4 rfl rfl km) ?_
  refine o8 ?_
  refine e6 (tL uT rfl) ?_
  refine e6 (Qt.dT (M0 rfl rfl) ow) ?_
  refine l3 ?_
  refine Q3 rfl ?_
  refine c8 ?_
  refine c7 ?_
  refine o8 ?_
  refine o8 ?_
  refine e6 (T3 uT cT rfl rfl ow) ?_
  refine o8 ?_
  refine o8 ?_
  refine e6 (v4 rfl rfl km) ?_
  refine o8 ?_
  refine e6 (n8 (o7 (b := 0) rfl rfl ow km) (by rw [Nat.sub_zero])) ?_
  refine z7 (CT uT uT elem49 rfl rfl ow (by simp only [maxLen]; omega) ow (fun n1 c1 cs1 hc1 hm1 hl1 => ?_))
  refine C3 ?_
  refine l3 ?_
  refine c8 ?_
  refine c7 ?_
  refine o8 ?_
  refine o8 ?_
  refine e6 (n8 (v' := .slice (some ⟨n1, 0, none⟩) (xs.length + 1) c1) (D3 (l := 0) uT cT rfl rfl ow) (by simp [Addr.add])) ?_
  refine o8 ?_
  refine z7 (eA (cs' := L8 x ++ cs1.drop 32) (news := L8 x) uT cT rfl rfl (j8 (c9 hV)) (by rw [l6, Nat.min_eq_left ow]) (r9 _) (by rw [l6, hl1]; omega) (by rw [l6]; simp) ?_)
  refine l3 ?_
  refine c8 ?_
  refine D1 ([8], []) mixed (sd (sk I8)) ?_
  refine c6 0 rfl (m8 cw) ?_
  refine c6 1 rfl (m8 cw) ?_
  refine c6 2 rfl (m8 cw) ?_
  refine c6 3 rfl (v4 rfl rfl km) ?_
  refine c6 4 rfl (n8 (v' := .slice (some ⟨n1, 32, none⟩) xs.length (c1 - 1)) (D3 (l := 0 + 1) uT cT rfl rfl ow) (by rw [if_neg ow]; simp [Addr.add])) ?_
  refine c6 5 rfl (m8 cw) ?_
  refine c6 6 rfl (m8 cw) ?_
  refine c6 7 rfl (n8 (v' := .slice (some ⟨g, 0, none⟩) xs.length c) (D3 (l := 0) uT cT rfl rfl ow) (by simp [Addr.add])) ?_
  refine FZ (k := 8) (sd (sk I8)) rfl (by kernel_rfl) (by kernel_rfl) rfl rfl (eA (cs' := m9 (x :: xs) ++ cs1.drop ((xs.length + 1) * 32)) (news := m9 xs) uT cT rfl rfl (yG N3 hct) (by rw [hcx, Nat.min_self]) (lK _) (by rw [hcx, List.length_append, l6, List.length_drop, hl1]; omega) (zfd x xs cs1) ⟨sd (sk I8), ?_⟩)
  refine R2 (sd (sk I8)) (by kernel_rfl) ?_
  refine c8 ?_
  refine c7 ?_
  refine TL.shutOwn (n := xs.length + 1) (sz := 32) (by rw [List.length_append, m7, List.length_drop, hl1, List.length_cons]; omega) (hc1) (hm1) pr ?_
  rw [List.take_left' (by rw [m7, List.length_cons])]
  refine o8 ?_
  refine C3 ?_
  refine l3 ?_
  refine a9 (finQ.ret rv (sk (sd I8)) ?_)
  exact ⟨some ⟨n1, 0, none⟩, c1, rfl, rfl⟩
theorem zff (A : y8) (c : Nat) (xs : List i6) (gv : Nat) (x : i6) (h0 : 0 < xs.length) (hm : xs.length ≤ 65536) (hg : xs.length + 1 ≤ c) (w0 : World) (hL : Sat w0 [OwnA 49 32 A xs.length c (m9 xs)]) (hV : Ro w0 (A8 [OwnA 49 32 A xs.length c (m9 xs)]) (Blk gv 49 (L8 x))) :
    Calls prog 65 #[.slice A xs.length c, .int .i64 ((0 : Nat) : Int), .slice (some ⟨gv, 0, none⟩) 1 1] w0 (D0 w0 (A8 [OwnA 49 32 A xs.length c (m9 xs)]) fun v L => ∃ O d, v = .slice O (xs.length + 1) d ∧ L = [OwnA 49 32 O (xs.length + 1) d (m9 (x :: xs))]) := by
  refine N4 (L := [OwnA 49 32 A xs.length c (m9 xs)]) (n := 95) (rs := [.tmp 6]) func65 rfl rfl rfl (Nat.le_of_ble_eq_true rfl) (hL) ?_
  refine mS (fun hA hz _ _ => absurd hz ow) (fun g cs hO hct hcl hnc hcm => ?_)
  subst hO
  have hgv : gv ≠ g := fun e => by have q := hV.2 gv (List.mem_singleton.2 rfl); subst e; exact q.2 (by simp [A8, OwnA, Value.ownBlock])
  have hcx : (m9 xs).length = xs.length * 32 := m7 xs
  refine c8 ?_
  refine c7 ?_
  refine C3 ?_
  refine l3 ?_
  refine c8 ?_
  refine c7 ?_
  refine o8 ?_
  refine o8 ?_
  refine e6 (D3 uT cT rfl rfl ow) ?_
  refine l3 ?_
  refine c8 ?_
  refine c7 ?_
  refine o8 ?_
  refine e6 (D6 uT rfl) ?_
  refine C3 ?_
  refine l3 ?_
  refine c8 ?_
  refine c8 ?_
  refine c7 ?_
  refine o8 ?_
  refine e6 (Qt.dF (z6 (b := 0) rfl rfl) (by decide)) ?_
  refine l3 ?_
  refine C4 rfl ?_
  refine w8 ?_
  refine c8 ?_
  refine c7 ?_
  refine o8 ?_
  refine e6 (D6 uT rfl) ?_
  refine C3 ?_
  refine l3 ?_
  refine c8 ?_
  refine c8 ?_
  refine c7 ?_
  refine o8 ?_
  refine o8 ?_
  refine e6 (Qt.dF (z6 rfl rfl) ow) ?_
  refine l3 ?_
  refine C4 rfl ?_
  refine w8 ?_
  refine c8 ?_
  refine c8 ?_
  refine c7 ?_
  refine o8 ?_
  refine o8 ?_
  refine e6 (v4 rfl rfl km) ?_
  refine o8 ?_
  refine e6 (tL uT rfl) ?_
  refine e6 (Qt.dF (M0 rfl rfl) ow) ?_
  refine l3 ?_
  refine C4 rfl ?_
  refine w8 ?_
  refine c8 ?_
  refine c7 ?_
  refine o8 ?_
  refine o8 ?_
  refine o8 ?_
  refine e6 (v4 rfl rfl km) ?_
  refine e6 (T3 uT cT rfl rfl ow) ?_
  refine C3 ?_
  refine l3 ?_
  refine c8 ?_
  refine c8 ?_
  refine c7 ?_
  refine o8 ?_
  refine o8 ?_
  refine o8 ?_
  refine o8 ?_
  refine e6 (v4 rfl rfl km) ?_
  refine e6 (n8 (v' := .slice (some ⟨g, 32, none⟩) xs.length (c - 1)) (D3 (l := 0 + 1) uT cT rfl rfl ow) (by rw [if_neg ow]; simp [Addr.add])) ?_
  refine e6 (zb3 (T := 33) (e := 49) (TR := 4) func130 (by kernel_rfl) (by kernel_rfl) (by kernel_rfl) (by kernel_rfl) uT cT rfl rfl rfl (c9 hV) w5 hgv (by rw [hcl]; omega)) ?_
  refine e6 (uN rfl) ?_
  refine l3 ?_
  refine Q3 rfl ?_
  refine c8 ?_
  refine dw ([8], []) ?_
  refine c6 0 rfl (m8 cw) ?_
  refine c6 1 rfl (m8 cw) ?_
  refine c6 2 rfl (m8 cw) ?_
  refine c6 3 rfl (v4 rfl rfl km) ?_
  refine c6 4 rfl (n8 (v' := .slice (some ⟨g, 32, none⟩) xs.length (c - 1)) (D3 (l := 0 + 1) uT cT rfl rfl ow) (by rw [if_neg ow]; simp [Addr.add])) ?_
  refine c6 5 rfl (m8 cw) ?_
  refine c6 6 rfl (m8 cw) ?_
  refine c6 7 rfl (n8 (v' := .slice (some ⟨g, 0, none⟩) (xs.length + 1) c) (D3 (l := 0) uT cT rfl rfl ow) (by simp [Addr.add])) ?_
  refine FZ (k := 8) sn rfl (by kernel_rfl) (by kernel_rfl) rfl rfl (eA (cs' := cs.take 32 ++ m9 xs ++ cs.drop (32 + (m9 xs).length)) (news := m9 xs) uT cT rfl rfl (yG w5 hct) (by rw [hcx, Nat.min_eq_right ow]) (lK _) (by rw [hcx, hcl]; omega) (rfl) ⟨sn, ?_⟩)
  refine R2 sn (by kernel_rfl) ?_
  refine c8 ?_
  refine c7 ?_
  refine o8 ?_
  refine o8 ?_
  refine e6 (n8 (v' := .slice (some ⟨g, 0, none⟩) (xs.length + 1) c) (D3 (l := 0) uT cT rfl rfl ow) (by simp [Addr.add])) ?_
  refine o8 ?_
  refine z7 (eA (cs' := m9 (x :: xs) ++ cs.drop (32 + (m9 xs).length)) (news := L8 x) uT cT rfl rfl (j8 (c9 hV)) (by rw [l6, Nat.min_eq_left ow]) (r9 _) (by rw [l6, List.length_append, List.length_append, List.length_take, hcx, hcl]; omega) (zdK x xs cs _ (by rw [hcl]; omega)) ?_)
  refine l3 ?_
  refine c8 ?_
  refine c7 ?_
  refine TL.shutOwn (n := xs.length + 1) (sz := 32) (by rw [List.length_append, m7, List.length_drop, hcx, hcl, List.length_cons]; omega) (hg) (hcm) pr ?_
  rw [List.take_left' (by rw [m7, List.length_cons])]
  refine o8 ?_
  refine C3 ?_
  refine l3 ?_
  refine a9 (finQ.ret rv sr ?_)
  exact ⟨some ⟨g, 0, none⟩, c, rfl, rfl⟩
theorem zcx (A) (c : Nat) (xs : List i6) (gv : Nat) (x : i6) (h0 : 0 < xs.length) (hm : xs.length ≤ 65536)  (w0) (hL : Sat w0 [OwnA 49 32 A xs.length c (m9 xs)]) (hV : Ro w0 (A8 [OwnA 49 32 A xs.length c (m9 xs)]) (Blk gv 49 (L8 x))) : Calls prog 65 #[sL A xs.length c, iI (0 : Nat), sL (some ⟨gv, 0, none⟩) 1 1] w0 (D0 w0 (A8 [OwnA 49 32 A xs.length c (m9 xs)]) fun v L => ∃ O d, v = sL O (xs.length + 1) d ∧ L = [OwnA 49 32 O (xs.length + 1) d (m9 (x :: xs))]) := by
 rcases Nat.lt_or_ge c (xs.length + 1) with h | h
 ·exact zfe A c xs gv x h0 hm h w0 hL hV
 ·exact zff A c xs gv x h0 hm h w0 hL hV
def N8 (lv : Nat) (xs : List i6) (i : Nat) : i6 := F8 lv (xs.getD (2 * i) e7) (xs.getD (2 * i + 1) e7)
theorem Ro.part {w : World} {M : List Nat} {A : y8} {cs : List Value} (h : Ro w M (SlA A cs)) (k n : Nat) : Ro w M (SlA (A.map (·.add k)) ((cs.drop k).take n)) := by
 have h1 := h.cut (c := 0) (l := 1) (k := k) (fun e => by cases e)
 rw [if_neg dc] at h1
 exact h1.take n
theorem zQ {xs : List i6} {m i : Nat} (hm : xs.length = 2 * m) (hi : i < m) : ((m9 xs).drop (2 * i * 32)).take 64 = m9 [xs.getD (2 * i) e7, xs.getD (2 * i + 1) e7] := by
 rw [oP, show (64 : Nat) = 2 * 32 from rfl, oQ]
 congr 1
 have h1 : 2 * i < xs.length := by omega
 have h2 : 2 * i + 1 < xs.length := by omega
 rw [List.drop_eq_getElem_cons h1, List.drop_eq_getElem_cons h2]
 rw [show xs.getD (2 * i) e7 = xs[2 * i] by simp [List.getD, h1], show xs.getD (2 * i + 1) e7 = xs[2 * i + 1] by simp [List.getD, h2]]
 rfl
theorem rS (A) (N c n : Nat) (hn : 1 ≤ n) (w0) :
  cP 132 #[sL A N c, iI n] w0 fun v L => ∃ b2 b3, v = .func (.func 186) #[] #[pZ b2, pZ b3] ∧ L = [Blk b3 3 [iI n], Blk b2 33 [sL A N c]] := by
 refine co 9 [.tmp 4] func132 ?_
 refine gw ?_
 intro b2
 refine gw ?_
 intro b3
 refine gw ?_
 refine e6 (Qt.dF (p9 (b := 1) rfl rfl) ow) (gw ?_)
 refine e6 (E9 (fs := []) (cs := [pZ b2, pZ b3]) rfl rfl) (gw ?_)
 refine a9 (D7 sr ?_)
 exact ⟨_, _, rfl, rfl⟩
theorem za9 (A) (m c n : Nat) (hn : 1 ≤ n) (hc : n * m ≤ c) (hc2 : c ≤ 9223372036854775807) (b2 b3 l : Nat) (J : Bool → List (Fin m) → List Assn → Prop) (w0) (L0 : List Assn) (h0 : Sat w0 L0) (hJ : J true [] L0) (hB2 : Ro w0 (A8 L0) (Blk b2 33 [sL A (n * m) c])) (hB3 : Ro w0 (A8 L0) (Blk b3 3 [iI n]))
  (hY : ∀ pre x w' L', (fun ys : List (Fin m) => ∃ j, j ≤ m ∧ ys = (List.finRange m).take j) (pre ++ [x]) → J true pre L' → St w0 (A8 L0) L' w' → YieldAt Fence.wide 0 prog l ((fun i : Fin m => [sL (A.map (·.add (n * i.val * 32))) n n]) x).toArray w' fun e w'' => ∃ L'', St w' (A8 L') L'' w'' ∧ ((e = .returned (.bool true) ∧ J true (pre ++ [x]) L'') ∨ (e = .returned (.bool false) ∧ J false (pre ++ [x]) L''))) :
  Calls prog 186 #[.func (.yield l) #[] #[], pZ b2, pZ b3] w0 (D0 w0 (A8 L0) fun v L => (∃ xs, xs = List.finRange m ∧ J true xs L) ∨ (∃ pre, True ∧ J false pre L)) := by
 refine gW (L := L0) 31 [] func186 h0 ?_
 refine gw ?_
 refine l5 (γ := Nat × List Assn) (mr 4 27 []) (fun g => [(4, iI ↑(n * g.1))]) (fun g => g.2) (fun g => g.1 ≤ m ∧ J true ((List.finRange m).take g.1) g.2) (fun g => m - g.1) ((0, L0))
  ⟨Nat.zero_le _, hJ⟩ oa sr ?_
 rintro ⟨k, Z⟩ u ⟨hk, hj⟩
 dsimp only at hk hj
 refine gw ?_
 refine j0 rfl rfl (p9 rfl rfl) (fun h9 => gw ?_) (fun h9 => gw ?_)
 ·refine dw ([], []) ?_
  have hkm : k < m := Nat.lt_of_mul_lt_mul_left (a := n) h9
  have hkn : n * k + n ≤ n * m := by rw [← Nat.mul_succ]; exact Nat.mul_le_mul_left _ hkm
  have hkn2 : n * (k, Z).fst + n ≤ n * m := hkn
  refine gw ?_
  refine c6 3 rfl (D3 uT cT rfl rfl ow) (gw ?_)
  refine c6 5 rfl (n8 (GC rfl rfl) (by rw [Nat.min_eq_left (show n ≤ n * m - n * k by omega)])) (gw ?_)
  refine p7 (gw ?_)
  refine e6 (v4 rfl rfl km) (gw ?_)
  refine e6 (v4 rfl rfl km) (e6 (n8 (v' := sL (A.map (·.add (n * k * 32))) n n) (yP uT cT rfl rfl rfl rfl ow ow ow) (by rw [if_neg ow, show n * k + n - n * k = n by omega])) ?_)
  refine z7 (uL (L1 := []) (enc := (fun i : Fin m => [sL (A.map (·.add (n * i.val * 32))) n n])) ⟨k, hkm⟩ (fun w' L' => hY _ _ w' L' ⟨k + 1, hkm, (X9 hkm).symm⟩) rfl rfl hj (fun Z2 hj2 => ?_) (fun Z2 hj2 => ?_))
  ·rw [← X9 hkm] at hj2
   refine gw ?_
   refine e6 (v4 rfl rfl km) (gw ?_)
   refine ⟨(k + 1, Z2), ?_, od, oz, sr⟩
   exact ⟨by show _ ≤ _; dsimp only; omega, hj2⟩
  ·refine gw ?_
   exact a9 (finQ.ret n9 sr (.inr ⟨_, trivial, hj2⟩))
 ·refine i7 (finQ.normal n9 sr ?_)
  have hkm : m ≤ k := Nat.le_of_mul_le_mul_left (Nat.le_of_not_lt h9) hn
  obtain rfl : k = m := by omega
  rw [dS] at hj
  exact .inl ⟨_, rfl, hj⟩
theorem uX (A) (m c n : Nat) (hn : 1 ≤ n) (hc : n * m ≤ c) (hc2 : c ≤ 9223372036854775807) (b2 b3 : Nat) (w) (L0 : List Assn) (h0 : Sat w L0) (hB2 : Ro w (A8 L0) (Blk b2 33 [sL A (n * m) c])) (hB3 : Ro w (A8 L0) (Blk b3 3 [iI n])) :
  KO prog 186 #[pZ b2, pZ b3] (fun i : Fin m => [sL (A.map (·.add (n * i.val * 32))) n n]) (fun xs => xs = List.finRange m) (fun _ => True) (fun ys : List (Fin m) => ∃ j, j ≤ m ∧ ys = (List.finRange m).take j) w L0 := fun l J hJ hY =>
 za9 A m c n hn hc hc2 b2 b3 l J w L0 h0 hJ hB2 hB3 hY
theorem fV (lv : Nat) (h1 : 1 ≤ lv) (h2 : lv ≤ 32) (A) (m c : Nat) (xs : List i6) (hm : xs.length = 2 * m) (hc : 2 * m ≤ c) (hcm : c ≤ 9223372036854775807) (hb : m ≤ 65536) (w0) (hR : Ro w0 [] (SlA A (m9 xs))) (hT : Tabs 3 1 w0 []) :
  cP 66 #[iI lv, sL A (2 * m) c] w0 fun v L => ∃ O d, v = .tuple #[sL O m d, .nilIface] ∧ L = [OwnA 49 32 O m d (m9 ((List.finRange m).map (fun i : Fin m => N8 lv xs i.val)))] := by
 refine co 32 [.cell 4 33, .cell 5 51] func66 ?_
 refine m6 49 32 (gw ?_)
 intro b2
 refine gw ?_
 intro b4
 refine gw ?_
 intro b5
 refine gw ?_
 intro b6
 refine gw ?_
 refine z9 en (fun w hw => rS A (2 * m) c 2 dc w) ?_
 rintro v L' ⟨c2, c3, rfl, rfl⟩
 refine gw ?_
 refine gJ (α := Fin m) (fun i : Fin m => [sL (A.map (·.add (2 * i.val * 32))) 2 2]) (fun ys => ys = List.finRange m) (fun _ => True) (fun ys : List (Fin m) => ∃ j, j ≤ m ∧ ys = (List.finRange m).take j) (fun pre L' => ∃ O d, L' = [Blk b6 33 [sL O pre.length d], OwnA 49 32 O pre.length d (m9 (pre.map (fun i : Fin m => N8 lv xs i.val)))]) (fun _ _ _ => False) (L0 := [Blk b6 33 [sL none ([] : List (Fin m)).length 0], OwnA 49 32 none ([] : List (Fin m)).length 0 (m9 (([] : List (Fin m)).map (fun i : Fin m => N8 lv xs i.val)))]) rfl rfl en rfl (fun _ => rfl) (pm2.trans (pc pm5)) ⟨none, 0, rfl⟩ (fun w L' hw => uX A m c 2 dc hc hcm c2 c3 w L' hw.sat.left (y9 hw (.tail _ (.head _))) (y9 hw (.head _))) ?_ ?_ (fun _ _ _ _ _ h => h.elim)
 ·rintro w' l Dd Rr Rb pre x L' hPf ⟨O, d, rfl⟩ hst
  have hpl : pre.length + 1 ≤ m := by obtain ⟨j, hj, e⟩ := hPf; have q := congrArg List.length e; rw [s9, List.length_take, List.length_finRange] at q; omega
  have hP : Ro w' (A8 (Rr :: eQ Dd :: [Blk b6 33 [sL O pre.length d], OwnA 49 32 O pre.length d (m9 (pre.map (fun i : Fin m => N8 lv xs i.val)))])) (SlA (A.map (·.add (2 * x.val * 32))) (m9 [xs.getD (2 * x.val) e7, xs.getD (2 * x.val + 1) e7])) := by
   rw [← zQ hm x.isLt]; exact (u5 hst hR).part _ _
  have hLv : Ro w' (A8 (Rr :: eQ Dd :: [Blk b6 33 [sL O pre.length d], OwnA 49 32 O pre.length d (m9 (pre.map (fun i : Fin m => N8 lv xs i.val)))])) (Blk b2 3 [iI lv]) := y9 hst (List.mem_of_getElem? (i := 4) rfl)
  have hT2 := Tabs.pre hT hst
  refine gw ?_
  refine ⟨_, sr, ?_⟩
  refine gw ?_
  refine dw ([12], [11]) (gw ?_)
  refine c6 2 rfl (i5 (i := 0) uT cT rfl rfl dc (c9 hP) (by rw [m7]; show 0 * 32 < 2 * 32; decide)) (c6 3 rfl (a8 rfl (E4 (l := [xs.getD (2 * x.val) e7, xs.getD (2 * x.val + 1) e7]) (c9 hP) 0 rT ce49 (show 0 < 2 by decide) rfl)) (gw ?_))
  refine c6 5 rfl (i5 (i := 1) uT cT rfl rfl dc (c9 hP) (by rw [m7]; show 1 * 32 < 2 * 32; decide)) (c6 6 rfl (a8 rfl (E4 (l := [xs.getD (2 * x.val) e7, xs.getD (2 * x.val + 1) e7]) (c9 hP) 1 rT ce49 (show 1 < 2 by decide) rfl)) ?_)
  refine I7 7 rfl en (fun w hw => vV lv h1 h2 (xs.getD (2 * x.val) e7) (xs.getD (2 * x.val + 1) e7) w (hT2.at hw)) (gw ?_)
  refine aO 11 rfl (z4 zT (fun b8 => (G0 ?_)))
  refine F7 12 rfl (W9 (N8 lv xs x.val) rfl (G0 (gw ?_)))
  refine p7 (gw ?_)
  refine z7 (m5 (v := hv (N8 lv xs x.val)) uT elem49 dc rfl (v9 _) (fun g29 => (z7 (CR (news := L8 (N8 lv xs x.val)) uT elem49 rfl rfl (j8 (cs := L8 (N8 lv xs x.val)) w5) (by rw [l6]) (r9 _) kx ow (fun O' d' => (j9 rfl (fK rfl cw (by exact ce33) (by rfl) (by rfl) (gw ?_))))))))
  refine ⟨_, sp, O', d', ?_⟩
  simp only [s9, List.map_append, M3, List.map_cons, List.map_nil, N6, iZ, List.append_nil]
  rfl
 ·rintro Dd ys L' rfl ⟨O, d, rfl⟩
  refine gw ?_
  refine j9 rfl (Y7 rfl cw (by exact ce33) (by rfl) (by rfl) ?_)
  refine j9 rfl (cY rfl cw (by exact ce51) (by rfl) (by rfl) (gw ?_))
  refine a9 (finQ.retM rfl sr (j7 rfl (i9 (s6 5 rfl) oT (rfl)) (j7 rfl (i9 (s6 4 rfl) oT (rfl)) n9)) (sT (sk (sd (sd (sd (sd (sd (sd I8))))))) (sT (sk sr) (e5 pm1))) ?_)
  rw [List.length_finRange]
  exact ⟨O, d, rfl, rfl⟩
theorem gC (h f n : Nat) (hh : h ≤ 32) (hf : f + n ≤ 2 ^ h) (h1 : 1 ≤ n) (h2 : n ≤ 256) (w0) :
  cP 91 #[iI h, uI f, iI n] w0 fun v L => ∃ A1 c1 A2 c2, v = .tuple #[sL A1 (l4 f h).length c1, sL A2 (j6 (f + n - 1) h).length c2] ∧ L = [OwnA 265 2 A1 (l4 f h).length c1 (iQ (l4 f h)), OwnA 265 2 A2 (j6 (f + n - 1) h).length c2 (iQ (j6 (f + n - 1) h))] := by
 refine co 54 [.tmp 6, .tmp 7] func91 ?_
 have hpw : 2 ^ h ≤ 4294967296 := (show 2 ^ h ≤ 2 ^ 32 from Nat.pow_le_pow_right dc hh)
 refine m6 265 2 (m6 265 2 (gw ?_))
 refine e6 (r8 uT uT rfl km) (e6 (v4 rfl rfl km) (e6 (o7 (b := 1) rfl rfl ow km) (gw ?_)))
 refine l5 (γ := Nat × (y8 × Nat) × (y8 × Nat)) (mr 19 33 [8, 9, 11, 12, 13]) (fun g => [(11, iI g.1), (8, sL g.2.1.1 (l4 f g.1).length g.2.1.2), (9, sL g.2.2.1 (j6 (f + n - 1) g.1).length g.2.2.2)]) (fun g => [OwnA 265 2 g.2.1.1 (l4 f g.1).length g.2.1.2 (iQ (l4 f g.1)), OwnA 265 2 g.2.2.1 (j6 (f + n - 1) g.1).length g.2.2.2 (iQ (j6 (f + n - 1) g.1))]) (fun g => g.1 ≤ h) (fun g => h - g.1) ((0, (none, 0), (none, 0)))
  (Nat.zero_le _) oa sr ?_
 rintro ⟨k, ⟨A1, c1⟩, ⟨A2, c2⟩⟩ u hk
 dsimp only at hk
 refine gw ?_
 refine j0 rfl rfl (p9 rfl rfl) (fun h21 => gw ?_) (fun h21 => gw ?_)
 ·refine e6 (r8 uT uT rfl km) (e6 (G5 rfl rfl km) (gw ?_))
  refine e6 (r8 uT uT rfl km) (e6 (G5 rfl rfl km) (gw ?_))
  refine e6 (V9 (b := 2) rfl rfl ow) (j0 rfl rfl (C7 (b := 0) rfl rfl) (fun h34 => gw ?_) (fun h34 => gw ?_))
  ·refine e6 (o7 (b := 1) rfl rfl (by have h34b := JC h34; generalize f / 2 ^ k = m at h34b ⊢; omega) (by have := Nat.div_le_self f (2 ^ k); simp only [H1]; omega)) (e6 (n8 (F5 (vs := [iI k, uI (f / 2 ^ k - 1 : Nat)]) (pls := #[(0, 1), (1, 1)]) uT (fun w => by kernel_rfl) ze265 rfl ⟨rfl, rfl, trivial⟩ rfl) (show _ = Value.agg #[iI k, uI (f / 2 ^ k - 1 : Nat)] from rfl)) (z7 (m5 (v := .agg #[iI k, uI (f / 2 ^ k - 1 : Nat)]) uT elem265 dc rfl rfl (fun g40 => (z7 (G1 (news := iQ [(k, f / 2 ^ k - 1)]) uT elem265 rfl rfl (j8 (cs := iQ [(k, f / 2 ^ k - 1)]) w5) rfl (uD _) (by have := bI f k; simp only [maxLen]; omega) (by have := bI f k; (try dsimp only); omega) (fun O1 d1 => (gw ?_))))))))
   refine e6 (V9 (b := 2) rfl rfl ow) (j0 rfl rfl (C7 (b := 1) rfl rfl) (fun h44 => gw ?_) (fun h44 => gw ?_))
   ·refine e6 (v4 (b := 1) rfl rfl (by have := Nat.div_le_self (f + n - 1) (2 ^ k); simp only [H1]; omega)) (e6 (n8 (F5 (vs := [iI k, uI ((f + n - 1) / 2 ^ k + 1 : Nat)]) (pls := #[(0, 1), (1, 1)]) uT (fun w => by kernel_rfl) ze265 rfl ⟨rfl, rfl, trivial⟩ rfl) (show _ = Value.agg #[iI k, uI ((f + n - 1) / 2 ^ k + 1 : Nat)] from rfl)) (z7 (m5 (v := .agg #[iI k, uI ((f + n - 1) / 2 ^ k + 1 : Nat)]) uT elem265 dc rfl rfl (fun g50 => (z7 (S9 (news := iQ [(k, (f + n - 1) / 2 ^ k + 1)]) uT elem265 rfl rfl (j8 (cs := iQ [(k, (f + n - 1) / 2 ^ k + 1)]) w5) rfl (uD _) (by have := Y3 (f + n - 1) k; simp only [maxLen]; omega) (by have := Y3 (f + n - 1) k; (try dsimp only); omega) (fun O2 d2 => (gw ?_))))))))
    refine ⟨(k + 1, (O1, d1), (O2, d2)), ?_, ?_, ⟨?_, (fm rfl (fm (by show sL O1 ((l4 f k).length + 1) d1 = sL O1 (l4 f (k + 1)).length d1; rw [T9 (JC h34), s9]) (fm (by show sL O2 ((j6 (f + n - 1) k).length + 1) d2 = sL O2 (j6 (f + n - 1) (k + 1)).length d2; rw [U0 (JZ h44), s9]) nb)))⟩, (by dsimp only; rw [T9 (JC h34), s9, pR, U0 (JZ h44), s9, pR]; exact sp)⟩
    ·show _ ≤ _; dsimp only; omega
    ·show _ < _; dsimp only; omega
    exact K8
   ·refine ⟨(k + 1, (O1, d1), (A2, c2)), ?_, ?_, ⟨?_, (fm rfl (fm (by show sL O1 ((l4 f k).length + 1) d1 = sL O1 (l4 f (k + 1)).length d1; rw [T9 (JC h34), s9]) (fm (by show sL A2 (j6 (f + n - 1) k).length c2 = sL A2 (j6 (f + n - 1) (k + 1)).length c2; rw [W6 (GX h44)]) nb)))⟩, (by dsimp only; rw [T9 (JC h34), s9, pR, W6 (GX h44)]; exact sp)⟩
    ·show _ ≤ _; dsimp only; omega
    ·show _ < _; dsimp only; omega
    exact K8
  ·refine e6 (V9 (b := 2) rfl rfl ow) (j0 rfl rfl (C7 (b := 1) rfl rfl) (fun h44 => gw ?_) (fun h44 => gw ?_))
   ·refine e6 (v4 (b := 1) rfl rfl (by have := Nat.div_le_self (f + n - 1) (2 ^ k); simp only [H1]; omega)) (e6 (n8 (F5 (vs := [iI k, uI ((f + n - 1) / 2 ^ k + 1 : Nat)]) (pls := #[(0, 1), (1, 1)]) uT (fun w => by kernel_rfl) ze265 rfl ⟨rfl, rfl, trivial⟩ rfl) (show _ = Value.agg #[iI k, uI ((f + n - 1) / 2 ^ k + 1 : Nat)] from rfl)) (z7 (m5 (v := .agg #[iI k, uI ((f + n - 1) / 2 ^ k + 1 : Nat)]) uT elem265 dc rfl rfl (fun g50 => (z7 (Q1 (news := iQ [(k, (f + n - 1) / 2 ^ k + 1)]) uT elem265 rfl rfl (j8 (cs := iQ [(k, (f + n - 1) / 2 ^ k + 1)]) w5) rfl (uD _) (by have := Y3 (f + n - 1) k; simp only [maxLen]; omega) (by have := Y3 (f + n - 1) k; (try dsimp only); omega) (fun O2 d2 => (gw ?_))))))))
    refine ⟨(k + 1, (A1, c1), (O2, d2)), ?_, ?_, ⟨?_, (fm rfl (fm (by show sL A1 (l4 f k).length c1 = sL A1 (l4 f (k + 1)).length c1; rw [W5 (GW h34)]) (fm (by show sL O2 ((j6 (f + n - 1) k).length + 1) d2 = sL O2 (j6 (f + n - 1) (k + 1)).length d2; rw [U0 (JZ h44), s9]) nb)))⟩, (by dsimp only; rw [W5 (GW h34), U0 (JZ h44), s9, pR]; exact sp)⟩
    ·show _ ≤ _; dsimp only; omega
    ·show _ < _; dsimp only; omega
    exact K8
   ·refine ⟨(k + 1, (A1, c1), (A2, c2)), ?_, ?_, ⟨?_, (fm rfl (fm (by show sL A1 (l4 f k).length c1 = sL A1 (l4 f (k + 1)).length c1; rw [W5 (GW h34)]) (fm (by show sL A2 (j6 (f + n - 1) k).length c2 = sL A2 (j6 (f + n - 1) (k + 1)).length c2; rw [W6 (GX h44)]) nb)))⟩, (by dsimp only; rw [W5 (GW h34), W6 (GX h44)]; exact sr)⟩
    ·show _ ≤ _; dsimp only; omega
    ·show _ < _; dsimp only; omega
    exact K8
 ·refine i7 (c8 (gw ?_))
  refine a9 (finQ.ret rv sr ?_)
  obtain rfl : k = h := by omega
  exact ⟨A1, c1, A2, c2, rfl, rfl⟩
end Go.Proofs.YtgdjcmehlhebdaaGreatDoor
namespace Go.E
theorem qR {X1 X2 : Option (List (List UInt8))} {n : Nat} (h : ∀ a, X1 = some a → a.length ≤ n) : (D4 X1 X2).length ≤ n := by
 cases X1 with
 | none => exact Nat.zero_le _
 | some a => cases X2 with
  | none => exact Nat.zero_le _
  | some b =>
   show (yF a b).length ≤ n
   unfold yF
   split
   ·rw [List.length_zip]; have := h a rfl; omega
   ·exact Nat.zero_le _
theorem zL {h : Nat} (hh : h ≤ 32) {xs : List Nat} (hx : xs.length ≤ 256) (ls bs ls' bs' : List i6) : (D4 (I3 (h : Int) xs ls bs) (I3 (h : Int) xs ls' bs')).length ≤ 8192 := qR fun a ha => by
 unfold I3 at ha
 split at ha
 ·rename_i g
  injection ha with ha
  subst ha
  rw [HR, if_pos g, Int.toNat_natCast]
  have a := Y8 h xs 0 ls bs
  have b : xs.length * h ≤ 256 * 32 := Nat.mul_le_mul hx hh
  omega
 ·cases ha
theorem rA {z : Int} {f : Nat} (ls left right ls' left' right' : List i6) : (if ls.length = ls'.length then D4 (L6 z f ls left right) (L6 z f ls' left' right') else []).length ≤ 8192 := by
 split
 ·refine qR fun a ha => ?_
  unfold L6 at ha
  split at ha
  ·rename_i g
   injection ha with ha
   subst ha
   obtain ⟨h, rfl, h1, h2, c, _⟩ := xP g
   rw [Int.toNat_natCast]
   have a := lY (f := f) (h := h) c.n1 ls left right h
   have b : ls.length * h ≤ 256 * 32 := Nat.mul_le_mul h2 h1
   omega
  ·cases ha
 ·exact Nat.zero_le _
theorem eU {xs : List Nat} (hx : xs.length ≤ 256) (a b : List Item) : (D4 (M6 xs a) (M6 xs b)).length ≤ 256 := qR fun t ht => by
 unfold M6 at ht
 split at ht
 ·injection ht with ht
  subst ht
  rw [lL]; exact hx
 ·cases ht
end Go.E
namespace Go.Proofs.YtgdjcmehlhebdaaGreatDoor
open _root_.Go.Proofs.Tryz
open Go.E
set_option maxRecDepth 4000
theorem pN (E : Nat → i6) (hE : ∀ h, E (h + 1) = F8 (h + 1) (E h) (E h)) (gh : Nat) (hh : gh ≤ 32) (ls : Ls) (A) (c : Nat) (O) (d : Nat) (B) (e : Nat) (xs : List Nat) (hi : idxOk gh xs) (w0) (hlen : ls.length ≤ 4096) (lw : ∀ x ∈ ls, x.1 < 18446744073709551616) (hL : Ro w0 [] (SlA A (ls.flatMap L5))) (hO : Ro w0 [] (SlA O (m9 (H3 E)))) (hlowx : lW xs) (hR : Ro w0 [] (SlA B (w6 xs))) (hT : Tabs 2 0 w0 []) :
  cP 90 #[.agg #[iI gh, sL A ls.length c, sL O 33 d], sL B xs.length e] w0 fun v L => ∃ P q, v = sL P (l7 gh xs 0).length q ∧ L = [OwnA 49 32 P (l7 gh xs 0).length q (m9 ((l7 gh xs 0).map (fun a : Nat × Nat => s5 (fL E ls) a.1 a.2)))] := by
 refine co 34 [.tmp 4] func90 ?_
 have hse : E0 gh xs 0 = l7 gh xs 0 := by rw [cK, gX hi.root]
 have hsp : (E0 gh xs 0).length ≤ 8193 := by have h1 := jM gh xs 0; have h2 : xs.length * gh ≤ 256 * 32 := Nat.mul_le_mul hi.2.1 hh; omega
 have hok : ∀ a ∈ (E0 gh xs 0), N0 gh a := by rw [hse]; exact kX gh xs 0 (cE gh)
 refine m6 49 32 (gw ?_)
 intro b2
 refine gw ?_
 refine z9 en (fun w hw => CH gh hh B e xs hi.2.1 hlowx gh 0 w (cE gh) (Rd.ro hR w hw)) ?_
 rintro v L' ⟨P0, sdq, rfl, rfl⟩
 refine gw ?_
 refine l5 (γ := Nat × y8 × Nat) (mr 12 21 [5, 7]) (fun g => [(7, iI g.1), (5, sL g.2.1 g.1 g.2.2)]) (fun g => [OwnA 264 2 P0 ((E0 gh xs 0)).length sdq (iQ ((E0 gh xs 0))), Blk b2 83 (vl (.agg #[iI gh, sL A ls.length c, sL O 33 d])), OwnA 49 32 g.2.1 g.1 g.2.2 (m9 (((E0 gh xs 0).take g.1).map (fun a : Nat × Nat => s5 (fL E ls) a.1 a.2)))]) (fun g => g.1 ≤ (E0 gh xs 0).length) (fun g => (E0 gh xs 0).length - g.1) ((0, none, 0))
  (Nat.zero_le _) oa sr ?_
 rintro ⟨k, P, q⟩ u hk
 dsimp only at hk
 refine gw ?_
 refine j0 rfl rfl (p9 rfl rfl) (fun h15 => gw ?_) (fun h15 => gw ?_)
 ·refine dw ([14], [13]) (gw ?_)
  refine c6 1 rfl (a8 rfl (i4 (vs := vl (.agg #[iI gh, sL A ls.length c, sL O 33 d])) N3 rT ce83)) (gw ?_)
  refine c6 4 rfl (i5 uT cT rfl rfl ow (x8 w5) (by rw [W4]; omega)) ?_
  refine c6 5 rfl (z5 uT rfl ce3 rfl (x8 w5) (by rw [W4]; omega)) ?_
  refine c6 6 rfl (a8 rfl (A9 (v := iI (((E0 gh xs 0).getD k (0, 0)).1 : Int)) (x8 w5) oT (CD ow).1)) (gw ?_)
  refine c6 9 rfl (i5 uT cT rfl rfl ow (x8 w5) (by rw [W4]; omega)) ?_
  refine c6 10 rfl (z5 uT rfl ce40 rfl (x8 w5) (by rw [W4]; omega)) ?_
  refine c6 11 rfl (a8 rfl (A9 (v := uI (((E0 gh xs 0).getD k (0, 0)).2 : Int)) (x8 w5) oT (CD ow).2)) ?_
  refine I7 12 rfl en (fun w hw => jK E hE gh hh ls A c O d ((E0 gh xs 0).getD k (0, 0)).1 ((E0 gh xs 0).getD k (0, 0)).2 (hok _ (E6 (0, 0) h15)) w hlen lw (Rd.ro hL w hw) (Rd.ro hO w hw) (hT.at hw)) ?_
  refine aO 13 rfl (m5 (v := hv ((fun a : Nat × Nat => s5 (fL E ls) a.1 a.2) ((E0 gh xs 0).getD k (0, 0)))) uT elem49 dc rfl (v9 _) (fun g31 => (G0 ?_)))
  refine V5 14 rfl (S9 (news := L8 ((fun a : Nat × Nat => s5 (fL E ls) a.1 a.2) ((E0 gh xs 0).getD k (0, 0)))) uT elem49 rfl rfl (j8 (cs := L8 ((fun a : Nat × Nat => s5 (fL E ls) a.1 a.2) ((E0 gh xs 0).getD k (0, 0)))) w5) (by rw [l6]) (r9 _) kx ow (fun O' d' => (G0 ?_)))
  refine gw ?_
  refine p7 (gw ?_)
  exact ⟨(k + 1, O', d'), od, od, oz, (by dsimp only; rw [← wB (fun a : Nat × Nat => s5 (fL E ls) a.1 a.2) (0, 0) h15]; exact sp)⟩
 ·refine i7 (c8 (gw ?_))
  refine a9 (D7 (sT (sk (sd (sd I8))) (sT (sk sr) (e5 pm2))) ?_)
  obtain rfl : k = (E0 gh xs 0).length := by omega
  exact ⟨P, q, by rw [← hse]; rfl, by rw [List.take_length, ← hse]⟩
theorem eZ (E : Nat → i6) (hE : ∀ h, E (h + 1) = F8 (h + 1) (E h) (E h)) (gh : Nat) (hh : gh ≤ 32) (ls : Ls) (A) (c : Nat) (O) (d : Nat) (B) (e : Nat) (xs : List Nat) (hi : idxOk gh xs) (w0) (hlen : ls.length ≤ 4096) (lw : ∀ x ∈ ls, x.1 < 18446744073709551616) (hL : Ro w0 [] (SlA A (ls.flatMap L5))) (hO : Ro w0 [] (SlA O (m9 (H3 E)))) (hlowx : lW xs) (hR : Ro w0 [] (SlA B (w6 xs))) (hT : Tabs 2 0 w0 []) :
  cP 88 #[.agg #[iI gh, sL A ls.length c, sL O 33 d], sL B xs.length e] w0 fun v L => ∃ P q, v = sL P xs.length q ∧ L = [OwnA 49 32 P xs.length q (m9 (xs.map (fun x => s5 (fL E ls) 0 x)))] := by
 refine co 23 [.tmp 4] func88 ?_
 have hn := hi.2.1
 refine m6 49 32 (gw ?_)
 intro b2
 refine gw ?_
 refine l5 (γ := Nat × y8 × Nat) (mr 5 17 []) (fun g => [(6, iI g.1), (5, sL g.2.1 g.1 g.2.2)]) (fun g => [Blk b2 83 (vl (.agg #[iI gh, sL A ls.length c, sL O 33 d])), OwnA 49 32 g.2.1 g.1 g.2.2 (m9 ((xs.take g.1).map (fun x => s5 (fL E ls) 0 x)))]) (fun g => g.1 ≤ xs.length) (fun g => xs.length - g.1) ((0, none, 0))
  (Nat.zero_le _) oa sr ?_
 rintro ⟨k, P, q⟩ u hk
 dsimp only at hk
 refine gw ?_
 refine j0 rfl rfl (p9 rfl rfl) (fun h10 => gw ?_) (fun h10 => gw ?_)
 ·refine dw ([8], [7]) (gw ?_)
  refine c6 1 rfl (a8 rfl (i4 (vs := vl (.agg #[iI gh, sL A ls.length c, sL O 33 d])) w5 rT ce83)) (gw ?_)
  refine c6 4 rfl (i5 uT cT rfl rfl ow (c9 hR) (by rw [D5]; omega)) ?_
  refine c6 5 rfl (a8 rfl (A9 (v := uI ↑(xs.getD k 0)) (c9 hR) oT (F6 ow))) ?_
  refine I7 6 rfl en (fun w hw => jK E hE gh hh ls A c O d 0 (xs.getD k 0) (JE (hi.low _ (E6 0 h10))) w hlen lw (Rd.ro hL w hw) (Rd.ro hO w hw) (hT.at hw)) ?_
  refine aO 7 rfl (m5 (v := hv (s5 (fL E ls) 0 (xs.getD k 0))) uT elem49 dc rfl (v9 _) (fun g20 => (G0 ?_)))
  refine V5 8 rfl (Q1 (news := L8 (s5 (fL E ls) 0 (xs.getD k 0))) uT elem49 rfl rfl (j8 (cs := L8 (s5 (fL E ls) 0 (xs.getD k 0))) w5) (by rw [l6]) (r9 _) kx ow (fun O' d' => (G0 ?_)))
  refine gw ?_
  refine p7 (gw ?_)
  exact ⟨(k + 1, O', d'), od, od, oz, (by dsimp only; rw [← wB (fun x => s5 (fL E ls) 0 x) 0 h10]; exact sp)⟩
 ·refine i7 (c8 (gw ?_))
  refine a9 (D7 (sT (sk (sd I8)) (sT (sk sr) (e5 pm1))) ?_)
  obtain rfl : k = xs.length := by omega
  exact ⟨P, q, rfl, by rw [List.take_length]⟩
end Go.Proofs.YtgdjcmehlhebdaaGreatDoor
