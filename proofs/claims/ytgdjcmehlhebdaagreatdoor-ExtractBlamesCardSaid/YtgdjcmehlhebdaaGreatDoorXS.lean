/- Plain words: the row of a span's nodes, level by level. -/
import Derived.Test.YtgdjcmehlhebdaaGreatDoorXP
set_option maxHeartbeats 25600000
namespace Go.E
theorem ze1 {f : Nat} : ∀ {k : Nat} {x : Nat × Nat}, x ∈ zaq f k → x.1 < k ∧ x.2 = f / 2 ^ x.1 - 1 ∧ f / 2 ^ x.1 % 2 = 1
 | 0, x, h => by cases h
 | k + 1, x, h => by
  rw [zaq] at h
  split at h
  ·rename_i hb
   rcases List.mem_append.1 h with h1 | h1
   ·have := ze1 h1; exact ⟨by omega, this.2⟩
   ·rw [List.mem_singleton.1 h1]; exact ⟨Nat.lt_succ_self _, rfl, hb⟩
  ·have := ze1 h; exact ⟨by omega, this.2⟩
theorem ze2 {b : Nat} : ∀ {k : Nat} {x : Nat × Nat}, x ∈ zan b k → x.1 < k ∧ x.2 = b / 2 ^ x.1 + 1 ∧ b / 2 ^ x.1 % 2 = 0
 | 0, x, h => by cases h
 | k + 1, x, h => by
  rw [zan] at h
  split at h
  ·rename_i hb
   rcases List.mem_append.1 h with h1 | h1
   ·have := ze2 h1; exact ⟨by omega, this.2⟩
   ·rw [List.mem_singleton.1 h1]; exact ⟨Nat.lt_succ_self _, rfl, hb⟩
  ·have := ze2 h; exact ⟨by omega, this.2⟩
theorem zgY {f k : Nat} : ∀ {h : Nat}, k ≤ h → ∃ rest, zaq f h = zaq f k ++ rest
  | 0, hk => by obtain rfl : k = 0 := by omega
                exact ⟨[], by simp⟩
  | h + 1, hk => by
    rcases Nat.lt_or_ge k (h + 1) with h1 | h1
    · obtain ⟨rest, e⟩ := zgY (f := f) (k := k) (h := h) ow
      by_cases hb : f / 2 ^ h % 2 = 1
      · exact ⟨rest ++ [(h, f / 2 ^ h - 1)], by rw [zb4 hb, e, List.append_assoc]⟩
      · exact ⟨rest, by rw [zcp hb, e]⟩
    · obtain rfl : k = h + 1 := by omega
      exact ⟨[], by simp⟩
theorem zgZ {b k : Nat} : ∀ {h : Nat}, k ≤ h → ∃ rest, zan b h = zan b k ++ rest
  | 0, hk => by obtain rfl : k = 0 := by omega
                exact ⟨[], by simp⟩
  | h + 1, hk => by
    rcases Nat.lt_or_ge k (h + 1) with h1 | h1
    · obtain ⟨rest, e⟩ := zgZ (b := b) (k := k) (h := h) ow
      by_cases hb : b / 2 ^ h % 2 = 0
      · exact ⟨rest ++ [(h, b / 2 ^ h + 1)], by rw [zb5 hb, e, List.append_assoc]⟩
      · exact ⟨rest, by rw [zcq hb, e]⟩
    · obtain rfl : k = h + 1 := by omega
      exact ⟨[], by simp⟩
theorem zfJ {s t : Sd} {bs : List H32} {a : Nat × Nat} (hl : (s ++ a :: t).length = bs.length) (h1 : a ∉ s) : look a ((s ++ a :: t).zip bs) = some (bs.getD s.length zac) := by
 refine zhP (0, 0) (k := s.length) (by simp) hl (fun j hj e => h1 ?_) (by simp [List.getD])
 have : (s ++ a :: t).getD j (0, 0) = s[j] := by simp [List.getD, List.getElem?_append_left hj, hj]
 rw [this] at e; rw [← e]; exact List.getElem_mem hj
theorem zh0 {f k h : Nat} {left : List H32} (hl : (zaq f h).length = left.length) (hk : k < h) (ho : f / 2 ^ k % 2 = 1) : look (k, f / 2 ^ k - 1) ((zaq f h).zip left) = some (left.getD (zaq f k).length zac) := by
 obtain ⟨rest, e⟩ := zgY (f := f) (k := k + 1) (h := h) hk
 rw [zb4 ho, List.append_assoc] at e
 rw [e] at hl ⊢
 exact zfJ hl (fun hm => Nat.lt_irrefl _ (ze1 hm).1)
theorem zh1 {b k h : Nat} {right : List H32} (hl : (zan b h).length = right.length) (hk : k < h) (ho : b / 2 ^ k % 2 = 0) : look (k, b / 2 ^ k + 1) ((zan b h).zip right) = some (right.getD (zan b k).length zac) := by
 obtain ⟨rest, e⟩ := zgZ (b := b) (k := k + 1) (h := h) hk
 rw [zb5 ho, List.append_assoc] at e
 rw [e] at hl ⊢
 exact zfJ hl (fun hm => Nat.lt_irrefl _ (ze2 hm).1)
theorem zfp {f h k p : Nat} {left : List H32} (hp : f / 2 ^ k ≤ p) : look (k, p) ((zaq f h).zip left) = none :=
 zdm _ _ _ fun hm => by
  obtain ⟨_, h2, h3⟩ := ze1 hm
  have h2' : p = f / 2 ^ k - 1 := h2
  have h3' : f / 2 ^ k % 2 = 1 := h3
  generalize f / 2 ^ k = n at hp h2' h3'
  omega
theorem zh2 {b h k p : Nat} {right : List H32} (hp : p ≤ b / 2 ^ k) : look (k, p) ((zan b h).zip right) = none :=
 zdm _ _ _ fun hm => by
  have h2' : p = b / 2 ^ k + 1 := (ze2 hm).2.1
  omega
def refN (zl zr : List ((Nat × Nat) × H32)) (ls : List H32) (first : Nat) : Nat → Nat → H32
 | 0, p => match look (0, p) zl with
  | some h => h
  | none => match look (0, p) zr with
   | some h => h
   | none => ls.getD (p - first) zac
 | l + 1, p => match look (l + 1, p) zl with
  | some h => h
  | none => match look (l + 1, p) zr with
   | some h => h
   | none => zbj (l + 1) (refN zl zr ls first l (2 * p)) (refN zl zr ls first l (2 * p + 1))
variable {zl zr : List ((Nat × Nat) × H32)} {ls : List H32} {first l p : Nat}
theorem zg0 {h : H32} (e : look (l, p) zl = some h) : refN zl zr ls first l p = h := by cases l <;> simp [refN, e]
theorem zfq {h : H32} (e0 : look (l, p) zl = none) (e : look (l, p) zr = some h) : refN zl zr ls first l p = h := by cases l <;> simp [refN, e, e0]
theorem zjZ (e0 : look (0, p) zl = none) (e : look (0, p) zr = none) : refN zl zr ls first 0 p = ls.getD (p - first) zac := by simp [refN, e, e0]
theorem zj0 (e0 : look (l + 1, p) zl = none) (e : look (l + 1, p) zr = none) : refN zl zr ls first (l + 1) p = zbj (l + 1) (refN zl zr ls first l (2 * p)) (refN zl zr ls first l (2 * p + 1)) := by simp [refN, e, e0]
def rowV (g : Nat → H32) (a b : Nat) : List H32 := (List.range (b + 1 - a)).map fun i => g (a + i)
theorem za8 (g : Nat → H32) (a b : Nat) : (rowV g a b).length = b + 1 - a := by simp [rowV]
theorem zf5 {g : Nat → H32} {a b i : Nat} (h : i < b + 1 - a) : (rowV g a b).getD i zac = g (a + i) := by simp [rowV, List.getD, h]
theorem zpn {g : Nat → H32} {a b : Nat} (h0 : 0 < a) (h : a ≤ b + 1) : g (a - 1) :: rowV g a b = rowV g (a - 1) b := by
 refine List.ext_getElem (by simp [rowV]; omega) fun i h1 h2 => ?_
 cases i with
 | zero => simp [rowV]
 | succ i => simp [rowV]; congr 1; omega
theorem zpo {g : Nat → H32} {a b : Nat} (h : a ≤ b + 1) : rowV g a b ++ [g (b + 1)] = rowV g a (b + 1) := by
 unfold rowV
 rw [show b + 1 + 1 - a = (b + 1 - a) + 1 by omega, List.range_succ, List.map_append]
 simp [show a + (b + 1 - a) = b + 1 by omega]
theorem znj {g : Nat → H32} {a b i lv : Nat} (hi : i < b + 1 - a) : zbj lv (g (2 * (a + i))) (g (2 * (a + i) + 1)) = zbj lv ((rowV g (2 * a) (2 * b + 1)).getD (2 * i) zac) ((rowV g (2 * a) (2 * b + 1)).getD (2 * i + 1) zac) := by
 rw [zf5 ow, zf5 ow]
 congr 2 <;> omega
theorem zrj (g : Nat → H32) (a : Nat) : rowV g a a = [g a] := by simp [rowV, show a + 1 - a = 1 by omega]
structure RowCtx (f n h : Nat) (ls left right : List H32) : Prop where
 n1 : 1 ≤ n
 fit : f + n ≤ 2 ^ h
 len : ls.length = n
 lenL : (zaq f h).length = left.length
 lenR : (zan (f + n - 1) h).length = right.length
def zat (f n h : Nat) (ls left right : List H32) (k : Nat) : List H32 := rowV (refN ((zaq f h).zip left) ((zan (f + n - 1) h).zip right) ls f k) (f / 2 ^ k) ((f + n - 1) / 2 ^ k)
variable {f n h : Nat} {left right : List H32}
theorem RowCtx.le (c : RowCtx f n h ls left right) (k : Nat) : f / 2 ^ k ≤ (f + n - 1) / 2 ^ k := Nat.div_le_div_right (by have := c.n1; omega)
theorem RowCtx.zero (c : RowCtx f n h ls left right) : zat f n h ls left right 0 = ls := by
 have hl := c.len
 have h1 := c.n1
 refine List.ext_getElem (by rw [zat, za8]; simp; omega) fun i h2 h3 => ?_
 have h4 : i < (f + n - 1) / 2 ^ 0 + 1 - f / 2 ^ 0 := by simp; omega
 have := zf5 (g := refN ((zaq f h).zip left) ((zan (f + n - 1) h).zip right) ls f 0) h4
 rw [zdo zac (by rw [za8]; exact h4)] at this
 have h5 : (zat f n h ls left right 0)[i] = refN ((zaq f h).zip left) ((zan (f + n - 1) h).zip right) ls f 0 (f / 2 ^ 0 + i) := this
 rw [h5, zjZ (zfp (Nat.le_add_right _ _)) (zh2 (by simp; omega))]
 simp [List.getD, h3]
theorem RowCtx.last (c : RowCtx f n h ls left right) : zat f n h ls left right h = [refN ((zaq f h).zip left) ((zan (f + n - 1) h).zip right) ls f h 0] := by
 have h1 := c.n1
 have h2 := c.fit
 rw [zat, Nat.div_eq_of_lt ow, Nat.div_eq_of_lt ow, zrj]
def zaK (f n h : Nat) (ls left right : List H32) (k : Nat) : List H32 :=
 (if f / 2 ^ k % 2 = 1 then [left.getD (zaq f k).length zac] else []) ++ zat f n h ls left right k ++ (if (f + n - 1) / 2 ^ k % 2 = 0 then [right.getD (zan (f + n - 1) k).length zac] else [])
theorem RowCtx.mid (c : RowCtx f n h ls left right) {k : Nat} (hk : k < h) :
  zaK f n h ls left right k = rowV (refN ((zaq f h).zip left) ((zan (f + n - 1) h).zip right) ls f k) (2 * (f / 2 ^ (k + 1))) (2 * ((f + n - 1) / 2 ^ (k + 1)) + 1) := by
 have hle := c.le k
 have ea : f / 2 ^ (k + 1) = f / 2 ^ k / 2 := by rw [zay]
 have eb : (f + n - 1) / 2 ^ (k + 1) = (f + n - 1) / 2 ^ k / 2 := by rw [zay]
 unfold zaK zat
 have hL : ∀ (o : f / 2 ^ k % 2 = 1), left.getD (zaq f k).length zac = refN ((zaq f h).zip left) ((zan (f + n - 1) h).zip right) ls f k (f / 2 ^ k - 1) := fun o => (zg0 (zh0 c.lenL hk o)).symm
 have hR : ∀ (o : (f + n - 1) / 2 ^ k % 2 = 0), right.getD (zan (f + n - 1) k).length zac = refN ((zaq f h).zip left) ((zan (f + n - 1) h).zip right) ls f k ((f + n - 1) / 2 ^ k + 1) := fun o => (zfq (zfp ow) (zh1 c.lenR hk o)).symm
 generalize refN ((zaq f h).zip left) ((zan (f + n - 1) h).zip right) ls f k = g at hL hR ⊢
 rw [ea, eb]
 generalize hA : f / 2 ^ k = a at *
 generalize hB : (f + n - 1) / 2 ^ k = b at *
 have e1 : ((if a % 2 = 1 then [left.getD (zaq f k).length zac] else []) ++ rowV g a b : List H32) = rowV g (2 * (a / 2)) b := by
  split
  ·rename_i o
   rw [hL o, List.singleton_append, zpn ow ow]; congr 1; omega
  ·rename_i o
   rw [List.nil_append]; congr 1; omega
 rw [e1]
 split
 ·rename_i o
  rw [hR o, zpo ow]; congr 1; omega
 ·rename_i o
  rw [List.append_nil]; congr 1; omega
theorem RowCtx.midLen (c : RowCtx f n h ls left right) {k : Nat} (hk : k < h) : (zaK f n h ls left right k).length = 2 * ((f + n - 1) / 2 ^ (k + 1) + 1 - f / 2 ^ (k + 1)) := by
 have := c.le (k + 1)
 rw [c.mid hk, za8]; omega
theorem zpp {m : Nat} (F : Nat → H32) (ys : List H32) (hl : ys.length = m) (h : ∀ i (hi : i < m), F i = ys.getD i zac) : (List.finRange m).map (fun i : Fin m => F i.val) = ys := by
 refine List.ext_getElem (by rw [List.length_map, List.length_finRange, hl]) fun i h1 h2 => ?_
 have hi : i < m := by simpa using h1
 rw [List.getElem_map, ← zdo zac h2, ← h i hi]
 simp
theorem zpq (g : Nat → H32) {a b m lv : Nat} (hm : m = b + 1 - a) (ys : List H32) (hy : ys = rowV g (2 * a) (2 * b + 1)) : (List.finRange m).map (fun i : Fin m => zbj lv (ys.getD (2 * i.val) zac) (ys.getD (2 * i.val + 1) zac)) = rowV (fun q => zbj lv (g (2 * q)) (g (2 * q + 1))) a b := by
 subst hy
 refine zpp (fun i => zbj lv ((rowV g (2 * a) (2 * b + 1)).getD (2 * i) zac) ((rowV g (2 * a) (2 * b + 1)).getD (2 * i + 1) zac)) _ (by rw [za8, hm]) fun i hi => ?_
 rw [zf5 (g := fun q => zbj lv (g (2 * q)) (g (2 * q + 1))) ow]
 exact (znj ow).symm
theorem znk {g g' : Nat → H32} {a b : Nat} (h : ∀ p, a ≤ p → p ≤ b → g p = g' p) : rowV g a b = rowV g' a b := by
 unfold rowV
 refine List.map_congr_left fun i hi => h _ (Nat.le_add_right _ _) ?_
 have := List.mem_range.1 hi; omega
theorem RowCtx.next (c : RowCtx f n h ls left right) {k m : Nat} (hk : k < h) (hm : m = (f + n - 1) / 2 ^ (k + 1) + 1 - f / 2 ^ (k + 1)) : (List.finRange m).map (fun i : Fin m => zbj (k + 1) ((zaK f n h ls left right k).getD (2 * i.val) zac) ((zaK f n h ls left right k).getD (2 * i.val + 1) zac)) = zat f n h ls left right (k + 1) := by
 rw [zpq (refN ((zaq f h).zip left) ((zan (f + n - 1) h).zip right) ls f k) hm _ (c.mid hk)]
 exact znk fun p h1 h2 => (zj0 (zfp h1) (zh2 h2)).symm
theorem zfr {f n : Nat} (h1 : 1 ≤ n) : ∀ k, (f + n - 1) / 2 ^ k + 1 - f / 2 ^ k ≤ n ∧ f / 2 ^ k ≤ (f + n - 1) / 2 ^ k
 | 0 => by simp; omega
 | k + 1 => by
  have h := zfr (f := f) h1 k
  rw [← zay, ← zay]
  generalize (f + n - 1) / 2 ^ k = b at h ⊢
  generalize f / 2 ^ k = a at h ⊢
  omega
theorem RowCtx.lenAt {f n h : Nat} {ls left right : List H32} (c : RowCtx f n h ls left right) (k : Nat) : 0 < (zat f n h ls left right k).length ∧ (zat f n h ls left right k).length ≤ n := by
 have h1 := zfr (f := f) c.n1 k
 rw [zat, za8]
 omega
end Go.E
namespace Go.E
def zld (h f : Nat) (ls left right : List H32) : H32 × Nat := if 1 ≤ ls.length ∧ ls.length ≤ 256 ∧ f + ls.length ≤ 2 ^ h then if (zaq f h).length = left.length ∧ (zan (f + ls.length - 1) h).length = right.length then (refN ((zaq f h).zip left) ((zan (f + ls.length - 1) h).zip right) ls f h 0, 0) else (zac, 5) else (zac, 1)
def zbM (z : Int) (f : Nat) (ls left right : List H32) : H32 × Nat := if z < 0 ∨ 32 < z then (zac, 1) else zld z.toNat f ls left right
def chkS (root : H32) (z : Int) (f : Nat) (ls left right : List H32) : Nat := if (zbM z f ls left right).2 ≠ 0 then (zbM z f ls left right).2 else if (zbM z f ls left right).1 ≠ root then 5 else 0
theorem zg1 {h : Nat} (hh : h ≤ 32) (f : Nat) (ls left right : List H32) : zbM (h : Int) f ls left right = zld h f ls left right := by rw [zbM, if_neg ow, Int.toNat_natCast]
theorem zpr {h f : Nat} {ls left right : List H32} (g : ¬ (1 ≤ ls.length ∧ ls.length ≤ 256 ∧ f + ls.length ≤ 2 ^ h)) : zld h f ls left right = (zac, 1) := if_neg g
theorem zps {h f : Nat} {ls left right : List H32} (g : 1 ≤ ls.length ∧ ls.length ≤ 256 ∧ f + ls.length ≤ 2 ^ h) (g2 : ¬ ((zaq f h).length = left.length ∧ (zan (f + ls.length - 1) h).length = right.length)) : zld h f ls left right = (zac, 5) := by rw [zld, if_pos g, if_neg g2]
theorem zle {h f : Nat} {ls left right : List H32} (g : 1 ≤ ls.length ∧ ls.length ≤ 256 ∧ f + ls.length ≤ 2 ^ h) (g2 : (zaq f h).length = left.length ∧ (zan (f + ls.length - 1) h).length = right.length) : zld h f ls left right = (refN ((zaq f h).zip left) ((zan (f + ls.length - 1) h).zip right) ls f h 0, 0) := by rw [zld, if_pos g, if_pos g2]
def NodeOk (zl zr : List ((Nat × Nat) × H32)) (f last l p : Nat) : Prop := (f / 2 ^ l ≤ p ∧ p ≤ last / 2 ^ l) ∨ look (l, p) zl ≠ none ∨ look (l, p) zr ≠ none
theorem NodeOk.kids {f n h : Nat} {ls left right : List H32} (c : RowCtx f n h ls left right) {l p : Nat} (hl : l + 1 ≤ h) (k : NodeOk ((zaq f h).zip left) ((zan (f + n - 1) h).zip right) f (f + n - 1) (l + 1) p) (e0 : look (l + 1, p) ((zaq f h).zip left) = none) (e1 : look (l + 1, p) ((zan (f + n - 1) h).zip right) = none) :
  NodeOk ((zaq f h).zip left) ((zan (f + n - 1) h).zip right) f (f + n - 1) l (2 * p) ∧ NodeOk ((zaq f h).zip left) ((zan (f + n - 1) h).zip right) f (f + n - 1) l (2 * p + 1) := by
 rcases k with ⟨k1, k2⟩ | k | k
 ·rw [← zay] at k1 k2
  have hle := c.le l
  have hL : f / 2 ^ l % 2 = 1 → look (l, f / 2 ^ l - 1) ((zaq f h).zip left) ≠ none := fun o e => by rw [zh0 c.lenL hl o] at e; cases e
  have hR : (f + n - 1) / 2 ^ l % 2 = 0 → look (l, (f + n - 1) / 2 ^ l + 1) ((zan (f + n - 1) h).zip right) ≠ none := fun o e => by rw [zh1 c.lenR hl o] at e; cases e
  unfold NodeOk
  generalize f / 2 ^ l = a at *
  generalize (f + n - 1) / 2 ^ l = b at *
  constructor
  ·by_cases g : a ≤ 2 * p
   ·left; omega
   ·right; left
    have := hL ow
    rwa [show 2 * p = a - 1 by omega]
  ·by_cases g : 2 * p + 1 ≤ b
   ·left; omega
   ·right; right
    have := hR ow
    rwa [show 2 * p + 1 = b + 1 by omega]
 ·exact absurd e0 k
 ·exact absurd e1 k
theorem NodeOk.leaf {zl zr : List ((Nat × Nat) × H32)} {f last p : Nat} (k : NodeOk zl zr f last 0 p) (e0 : look (0, p) zl = none) (e1 : look (0, p) zr = none) : f ≤ p ∧ p ≤ last := by
 rcases k with k | k | k
 ·simpa using k
 ·exact absurd e0 k
 ·exact absurd e1 k
theorem NodeOk.root {f n h : Nat} {ls left right : List H32} (c : RowCtx f n h ls left right) : NodeOk ((zaq f h).zip left) ((zan (f + n - 1) h).zip right) f (f + n - 1) h 0 := by
 have h1 := c.n1
 have h2 := c.fit
 exact .inl ⟨by rw [Nat.div_eq_of_lt ow]; exact Nat.le_refl _, Nat.zero_le _⟩
def rowX (f n h : Nat) (ls left right : List H32) (k : Nat) : List (List UInt8) :=
 (List.range ((f + n - 1) / 2 ^ (k + 1) + 1 - f / 2 ^ (k + 1))).map fun i => zaM (k + 1) ((zaK f n h ls left right k).getD (2 * i) zac) ((zaK f n h ls left right k).getD (2 * i + 1) zac)
def zdt (f n h : Nat) (ls left right : List H32) (k : Nat) : List (List UInt8) := (List.range k).flatMap (rowX f n h ls left right)
theorem zbK (f n h : Nat) (ls left right : List H32) (k : Nat) : zdt f n h ls left right (k + 1) = zdt f n h ls left right k ++ rowX f n h ls left right k := by
 unfold zdt; rw [List.range_succ, List.flatMap_append]; simp
theorem zdu (f n h : Nat) (ls left right : List H32) (k : Nat) : (rowX f n h ls left right k).length = (f + n - 1) / 2 ^ (k + 1) + 1 - f / 2 ^ (k + 1) := by simp [rowX]
theorem zed (f n h : Nat) (ls left right ls' left' right' : List H32) : ∀ k, (zdt f n h ls left right k).length = (zdt f n h ls' left' right' k).length
 | 0 => rfl
 | k + 1 => by rw [zbK, zbK, List.length_append, List.length_append, zed f n h ls left right ls' left' right' k, zdu, zdu]
theorem zg2 {f n h : Nat} (h1 : 1 ≤ n) (ls left right : List H32) : ∀ k, (zdt f n h ls left right k).length ≤ n * k
 | 0 => Nat.zero_le _
 | k + 1 => by
  have i := zg2 (f := f) (h := h) h1 ls left right k
  have j := (zfr (f := f) h1 (k + 1)).1
  rw [zbK, List.length_append, zdu, Nat.mul_succ]; omega
variable {f n h : Nat} {ls left right ls' left' right' : List H32}
theorem ziK {k i : Nat} (hi : i < (f + n - 1) / 2 ^ (k + 1) + 1 - f / 2 ^ (k + 1)) : (rowX f n h ls left right k).getD i [] = zaM (k + 1) ((zaK f n h ls left right k).getD (2 * i) zac) ((zaK f n h ls left right k).getD (2 * i + 1) zac) := by
 simp [rowX, List.getD, hi]
theorem zmf (c : RowCtx f n h ls left right) {k i : Nat} (hk : k < h) (hi : i < (f + n - 1) / 2 ^ (k + 1) + 1 - f / 2 ^ (k + 1)) : shaH ((rowX f n h ls left right k).getD i []) = (zat f n h ls left right (k + 1)).getD i zac := by
 have e := c.next hk rfl
 rw [ziK hi, ← e]
 simp [List.getD, hi, zbj]
theorem zrk (c : RowCtx f n h ls left right) (c' : RowCtx f n h ls' left' right') {k : Nat} (hk : k < h) (e : zat f n h ls left right (k + 1) = zat f n h ls' left' right' (k + 1)) :
  zaK f n h ls left right k = zaK f n h ls' left' right' k ∨ ∃ q ∈ (rowX f n h ls left right k).zip (rowX f n h ls' left' right' k), isF q = true := by
 by_cases hx : ∃ i, i < (f + n - 1) / 2 ^ (k + 1) + 1 - f / 2 ^ (k + 1) ∧ (rowX f n h ls left right k).getD i [] ≠ (rowX f n h ls' left' right' k).getD i []
 ·obtain ⟨i, hi, hne⟩ := hx
  right
  refine ⟨((rowX f n h ls left right k).getD i [], (rowX f n h ls' left' right' k).getD i []), ?_, zgE.2 ⟨hne, by rw [zmf c hk hi, zmf c' hk hi, e]⟩⟩
  refine List.mem_iff_getElem.2 ⟨i, by rw [List.length_zip, zdu, zdu]; omega, ?_⟩
  rw [List.getElem_zip, zdo [] (by rw [zdu]; exact hi), zdo [] (by rw [zdu]; exact hi)]
 ·left
  have hl := c.midLen hk
  have hl' := c'.midLen hk
  refine List.ext_getElem (by rw [hl, hl']) fun j h1 h2 => ?_
  have hi : j / 2 < (f + n - 1) / 2 ^ (k + 1) + 1 - f / 2 ^ (k + 1) := by omega
  have heq : (rowX f n h ls left right k).getD (j / 2) [] = (rowX f n h ls' left' right' k).getD (j / 2) [] := Decidable.byContradiction fun hc => hx ⟨_, hi, hc⟩
  rw [ziK hi, ziK hi] at heq
  obtain ⟨e1, e2⟩ := zdR heq
  rw [← zdo zac h1, ← zdo zac h2]
  rcases Nat.mod_two_eq_zero_or_one j with o | o
  ·rw [show j = 2 * (j / 2) by omega]; exact e1
  ·rw [show j = 2 * (j / 2) + 1 by omega]; exact e2
theorem ziL (c : RowCtx f n h ls left right) (c' : RowCtx f n h ls' left' right') {k : Nat} (e : zaK f n h ls left right k = zaK f n h ls' left' right' k) :
  zat f n h ls left right k = zat f n h ls' left' right' k ∧ (f / 2 ^ k % 2 = 1 → left.getD (zaq f k).length zac = left'.getD (zaq f k).length zac) ∧ ((f + n - 1) / 2 ^ k % 2 = 0 → right.getD (zan (f + n - 1) k).length zac = right'.getD (zan (f + n - 1) k).length zac) := by
 unfold zaK at e
 have hl : (zat f n h ls left right k).length = (zat f n h ls' left' right' k).length := by rw [zat, zat, za8, za8]
 have a := List.append_inj e (by rw [List.length_append, List.length_append, hl]; split <;> rfl)
 have b := List.append_inj a.1 (by split <;> rfl)
 refine ⟨b.2, fun o => ?_, fun o => ?_⟩
 ·have := b.1; rw [if_pos o, if_pos o] at this; injection this
 ·have := a.2; rw [if_pos o, if_pos o] at this; injection this
theorem ziM : ∀ h, (∀ k, k < h → f / 2 ^ k % 2 = 1 → left.getD (zaq f k).length zac = left'.getD (zaq f k).length zac) → ∀ j, j < (zaq f h).length → left.getD j zac = left'.getD j zac
 | 0, _, j, hj => by simp [zaq] at hj
 | h + 1, hk, j, hj => by
  by_cases o : f / 2 ^ h % 2 = 1
  ·rw [zb4 o, List.length_append, List.length_singleton] at hj
   rcases Nat.lt_or_ge j (zaq f h).length with g | g
   ·exact ziM h (fun k hh => hk k ow) j g
   ·obtain rfl : j = (zaq f h).length := by omega
    exact hk h ow o
  ·rw [zcp o] at hj
   exact ziM h (fun k hh => hk k ow) j hj
theorem zg3 {b : Nat} : ∀ h, (∀ k, k < h → b / 2 ^ k % 2 = 0 → right.getD (zan b k).length zac = right'.getD (zan b k).length zac) → ∀ j, j < (zan b h).length → right.getD j zac = right'.getD j zac
 | 0, _, j, hj => by simp [zan] at hj
 | h + 1, hk, j, hj => by
  by_cases o : b / 2 ^ h % 2 = 0
  ·rw [zb5 o, List.length_append, List.length_singleton] at hj
   rcases Nat.lt_or_ge j (zan b h).length with g | g
   ·exact zg3 h (fun k hh => hk k ow) j g
   ·obtain rfl : j = (zan b h).length := by omega
    exact hk h ow o
  ·rw [zcq o] at hj
   exact zg3 h (fun k hh => hk k ow) j hj
theorem zj1 (c : RowCtx f n h ls left right) (c' : RowCtx f n h ls' left' right') : ∀ k, k ≤ h → zat f n h ls left right k = zat f n h ls' left' right' k → (∃ q ∈ (zdt f n h ls left right k).zip (zdt f n h ls' left' right' k), isF q = true) ∨
  (zat f n h ls left right 0 = zat f n h ls' left' right' 0 ∧ ∀ j, j < k → zaK f n h ls left right j = zaK f n h ls' left' right' j)
 | 0, _, e => .inr ⟨e, fun j hj => absurd hj (Nat.not_lt_zero _)⟩
 | k + 1, hk, e => by
  rw [zbK, zbK]
  rcases zrk c c' ow e with g | ⟨q, hq, g⟩
  ·rcases zj1 c c' k ow (ziL c c' g).1 with ⟨q, hq, g2⟩ | ⟨a, b⟩
   ·exact .inl ⟨q, zbW (zed ..) (.inl hq), g2⟩
   ·exact .inr ⟨a, fun j hj => (Nat.lt_or_ge j k).elim (b j) (fun hge => by (obtain rfl : j = k := by omega); exact g)⟩
  ·exact .inl ⟨q, zbW (zed ..) (.inr hq), g⟩
theorem zmg {a b : List H32} (hl : a.length = b.length) (h : ∀ j, j < a.length → a.getD j zac = b.getD j zac) : a = b := by
 refine List.ext_getElem hl fun j h1 h2 => ?_
 have := h j h1
 rwa [zdo zac h1, zdo zac h2] at this
def zrl (z : Int) (f : Nat) (ls left right : List H32) : List (List UInt8) := if (zbM z f ls left right).2 = 0 then zdt f ls.length z.toNat ls left right z.toNat else []
theorem zf6 {z : Int} (hz : (zbM z f ls left right).2 = 0) : ∃ h : Nat, z = (h : Int) ∧ h ≤ 32 ∧ ls.length ≤ 256 ∧ RowCtx f ls.length h ls left right ∧ (zbM z f ls left right).1 = refN ((zaq f h).zip left) ((zan (f + ls.length - 1) h).zip right) ls f h 0 := by
 by_cases hb : z < 0 ∨ 32 < z
 ·rw [zbM, if_pos hb] at hz; exact absurd hz (by decide)
 ·obtain ⟨h, rfl⟩ : ∃ n : Nat, z = (n : Int) := ⟨z.toNat, by omega⟩
  have hh : h ≤ 32 := by omega
  rw [zg1 hh] at hz ⊢
  by_cases g : 1 ≤ ls.length ∧ ls.length ≤ 256 ∧ f + ls.length ≤ 2 ^ h
  ·by_cases g2 : (zaq f h).length = left.length ∧ (zan (f + ls.length - 1) h).length = right.length
   ·exact ⟨h, rfl, hh, g.2.1, ⟨g.1, g.2.2, rfl, g2.1, g2.2⟩, by rw [zle g g2]⟩
   ·rw [zps g g2] at hz; exact absurd hz (by decide)
  ·rw [zpr g] at hz; exact absurd hz (by decide)
theorem zpt {z : Int} (h1 : (zbM z f ls left right).2 = 0) (h2 : (zbM z f ls' left' right').2 = 0) (hl : ls.length = ls'.length) (he : (zbM z f ls left right).1 = (zbM z f ls' left' right').1) (hn : ¬ (ls = ls' ∧ left = left' ∧ right = right')) : ∃ q ∈ zipX (zrl z f ls left right) (zrl z f ls' left' right'), isF q = true := by
 obtain ⟨h, rfl, hh, _, c, a⟩ := zf6 h1
 obtain ⟨h', e, hh', _, c', b⟩ := zf6 h2
 obtain rfl : h = h' := by omega
 rw [a, b] at he
 unfold zrl
 rw [if_pos h1, if_pos h2, Int.toNat_natCast, ← hl]
 rw [← hl] at c' he
 rw [zgF (zed ..)]
 rcases zj1 c c' h (Nat.le_refl _) (by rw [c.last, c'.last, he]) with g | ⟨g1, g2⟩
 ·exact g
 ·refine absurd ⟨?_, ?_, ?_⟩ hn
  ·rw [← c.zero, ← c'.zero]; exact g1
  ·exact zmg (by rw [← c.lenL, ← c'.lenL]) fun j hj => ziM h (fun k hk o => (ziL c c' (g2 k hk)).2.1 o) j (by rw [c.lenL]; exact hj)
  ·exact zmg (by rw [← c.lenR, ← c'.lenR]) fun j hj => zg3 h (fun k hk o => (ziL c c' (g2 k hk)).2.2 o) j (by rw [c.lenR]; exact hj)
end Go.E
