/-
  Plain words: the row of a span's nodes, level by level. Plain words: the root that a span comes to. The texts that are joined for a side; unlike sides of one root.
-/
import Derived.Test.YtgdjcmehlhebdaaGreatDoorQS
import Derived.Test.YtgdjcmehlhebdaaGreatDoorTP
import Derived.Test.YtgdjcmehlhebdaaGreatDoorXP
namespace Go.E
set_option linter.unusedVariables false
theorem sideL_mem {f : Nat} : ∀ {k : Nat} {x : Nat × Nat}, x ∈ sideL f k → x.1 < k ∧ x.2 = f / 2 ^ x.1 - 1 ∧ f / 2 ^ x.1 % 2 = 1
  | 0, x, h => by cases h
  | k + 1, x, h => by
    rw [sideL] at h
    split at h
    · rename_i hb
      rcases List.mem_append.1 h with h1 | h1
      · have := sideL_mem h1; exact ⟨by omega, this.2⟩
      · rw [List.mem_singleton.1 h1]; exact ⟨Nat.lt_succ_self _, rfl, hb⟩
    · have := sideL_mem h; exact ⟨by omega, this.2⟩
theorem sideR_mem {b : Nat} : ∀ {k : Nat} {x : Nat × Nat}, x ∈ sideR b k → x.1 < k ∧ x.2 = b / 2 ^ x.1 + 1 ∧ b / 2 ^ x.1 % 2 = 0
  | 0, x, h => by cases h
  | k + 1, x, h => by
    rw [sideR] at h
    split at h
    · rename_i hb
      rcases List.mem_append.1 h with h1 | h1
      · have := sideR_mem h1; exact ⟨by omega, this.2⟩
      · rw [List.mem_singleton.1 h1]; exact ⟨Nat.lt_succ_self _, rfl, hb⟩
    · have := sideR_mem h; exact ⟨by omega, this.2⟩
theorem sideL_pre {f k : Nat} : ∀ {h : Nat}, k ≤ h → ∃ rest, sideL f h = sideL f k ++ rest
  | 0, hk => by obtain rfl : k = 0 := by omega
                exact ⟨[], by simp⟩
  | h + 1, hk => by
    rcases Nat.lt_or_ge k (h + 1) with h1 | h1
    · obtain ⟨rest, e⟩ := sideL_pre (f := f) (k := k) (h := h) (by omega)
      by_cases hb : f / 2 ^ h % 2 = 1
      · exact ⟨rest ++ [(h, f / 2 ^ h - 1)], by rw [sideL_1 hb, e, List.append_assoc]⟩
      · exact ⟨rest, by rw [sideL_0 hb, e]⟩
    · obtain rfl : k = h + 1 := by omega
      exact ⟨[], by simp⟩
theorem sideR_pre {b k : Nat} : ∀ {h : Nat}, k ≤ h → ∃ rest, sideR b h = sideR b k ++ rest
  | 0, hk => by obtain rfl : k = 0 := by omega
                exact ⟨[], by simp⟩
  | h + 1, hk => by
    rcases Nat.lt_or_ge k (h + 1) with h1 | h1
    · obtain ⟨rest, e⟩ := sideR_pre (b := b) (k := k) (h := h) (by omega)
      by_cases hb : b / 2 ^ h % 2 = 0
      · exact ⟨rest ++ [(h, b / 2 ^ h + 1)], by rw [sideR_1 hb, e, List.append_assoc]⟩
      · exact ⟨rest, by rw [sideR_0 hb, e]⟩
    · obtain rfl : k = h + 1 := by omega
      exact ⟨[], by simp⟩
theorem look_at_snoc {s t : Sd} {bs : List H32} {a : Nat × Nat} (hl : (s ++ a :: t).length = bs.length) (h1 : a ∉ s) : look a ((s ++ a :: t).zip bs) = some (bs.getD s.length zeroH) := by
  refine look_first (0, 0) (k := s.length) (by simp) hl (fun j hj e => h1 ?_) (by simp [List.getD])
  have : (s ++ a :: t).getD j (0, 0) = s[j] := by simp [List.getD, List.getElem?_append_left hj, hj]
  rw [this] at e; rw [← e]; exact List.getElem_mem hj
theorem lookL_some {f k h : Nat} {left : List H32} (hl : (sideL f h).length = left.length) (hk : k < h) (ho : f / 2 ^ k % 2 = 1) : look (k, f / 2 ^ k - 1) ((sideL f h).zip left) = some (left.getD (sideL f k).length zeroH) := by
  obtain ⟨rest, e⟩ := sideL_pre (f := f) (k := k + 1) (h := h) hk
  rw [sideL_1 ho, List.append_assoc] at e
  rw [e] at hl ⊢
  exact look_at_snoc hl (fun hm => Nat.lt_irrefl _ (sideL_mem hm).1)
theorem lookR_some {b k h : Nat} {right : List H32} (hl : (sideR b h).length = right.length) (hk : k < h) (ho : b / 2 ^ k % 2 = 0) : look (k, b / 2 ^ k + 1) ((sideR b h).zip right) = some (right.getD (sideR b k).length zeroH) := by
  obtain ⟨rest, e⟩ := sideR_pre (b := b) (k := k + 1) (h := h) hk
  rw [sideR_1 ho, List.append_assoc] at e
  rw [e] at hl ⊢
  exact look_at_snoc hl (fun hm => Nat.lt_irrefl _ (sideR_mem hm).1)
theorem lookL_none {f h k p : Nat} {left : List H32} (hp : f / 2 ^ k ≤ p) : look (k, p) ((sideL f h).zip left) = none :=
  look_zip_none _ _ _ fun hm => by
    obtain ⟨_, h2, h3⟩ := sideL_mem hm
    have h2' : p = f / 2 ^ k - 1 := h2
    have h3' : f / 2 ^ k % 2 = 1 := h3
    generalize f / 2 ^ k = n at hp h2' h3'
    omega
theorem lookR_none {b h k p : Nat} {right : List H32} (hp : p ≤ b / 2 ^ k) : look (k, p) ((sideR b h).zip right) = none :=
  look_zip_none _ _ _ fun hm => by
    have h2' : p = b / 2 ^ k + 1 := (sideR_mem hm).2.1
    omega
/-- What a node comes to, as the document has it. -/
def refN (zl zr : List ((Nat × Nat) × H32)) (ls : List H32) (first : Nat) : Nat → Nat → H32
  | 0, p => match look (0, p) zl with
    | some h => h
    | none => match look (0, p) zr with
      | some h => h
      | none => ls.getD (p - first) zeroH
  | l + 1, p => match look (l + 1, p) zl with
    | some h => h
    | none => match look (l + 1, p) zr with
      | some h => h
      | none => joinH (l + 1) (refN zl zr ls first l (2 * p)) (refN zl zr ls first l (2 * p + 1))
variable {zl zr : List ((Nat × Nat) × H32)} {ls : List H32} {first l p : Nat}
theorem refN_left {h : H32} (e : look (l, p) zl = some h) : refN zl zr ls first l p = h := by cases l <;> simp [refN, e]
theorem refN_right {h : H32} (e0 : look (l, p) zl = none) (e : look (l, p) zr = some h) : refN zl zr ls first l p = h := by cases l <;> simp [refN, e, e0]
theorem refN_leaf (e0 : look (0, p) zl = none) (e : look (0, p) zr = none) : refN zl zr ls first 0 p = ls.getD (p - first) zeroH := by simp [refN, e, e0]
theorem refN_join (e0 : look (l + 1, p) zl = none) (e : look (l + 1, p) zr = none) : refN zl zr ls first (l + 1) p = joinH (l + 1) (refN zl zr ls first l (2 * p)) (refN zl zr ls first l (2 * p + 1)) := by simp [refN, e, e0]
/-- A row of nodes. -/
def rowV (g : Nat → H32) (a b : Nat) : List H32 := (List.range (b + 1 - a)).map fun i => g (a + i)
theorem rowV_len (g : Nat → H32) (a b : Nat) : (rowV g a b).length = b + 1 - a := by simp [rowV]
theorem rowV_get {g : Nat → H32} {a b i : Nat} (h : i < b + 1 - a) : (rowV g a b).getD i zeroH = g (a + i) := by simp [rowV, List.getD, h]
theorem rowV_cons {g : Nat → H32} {a b : Nat} (h0 : 0 < a) (h : a ≤ b + 1) : g (a - 1) :: rowV g a b = rowV g (a - 1) b := by
  refine List.ext_getElem (by simp [rowV]; omega) fun i h1 h2 => ?_
  cases i with
  | zero => simp [rowV]
  | succ i => simp [rowV]; congr 1; omega
theorem rowV_snoc {g : Nat → H32} {a b : Nat} (h : a ≤ b + 1) : rowV g a b ++ [g (b + 1)] = rowV g a (b + 1) := by
  unfold rowV
  rw [show b + 1 + 1 - a = (b + 1 - a) + 1 by omega, List.range_succ, List.map_append]
  simp [show a + (b + 1 - a) = b + 1 by omega]
theorem rowV_pairs {g : Nat → H32} {a b i lv : Nat} (hi : i < b + 1 - a) : joinH lv (g (2 * (a + i))) (g (2 * (a + i) + 1)) = joinH lv ((rowV g (2 * a) (2 * b + 1)).getD (2 * i) zeroH) ((rowV g (2 * a) (2 * b + 1)).getD (2 * i + 1) zeroH) := by
  rw [rowV_get (by omega), rowV_get (by omega)]
  congr 2 <;> omega
theorem rowV_one (g : Nat → H32) (a : Nat) : rowV g a a = [g a] := by simp [rowV, show a + 1 - a = 1 by omega]
/-- The row of a span at a level. -/
structure RowCtx (f n h : Nat) (ls left right : List H32) : Prop where
  n1 : 1 ≤ n
  fit : f + n ≤ 2 ^ h
  len : ls.length = n
  lenL : (sideL f h).length = left.length
  lenR : (sideR (f + n - 1) h).length = right.length
def rowLv (f n h : Nat) (ls left right : List H32) (k : Nat) : List H32 := rowV (refN ((sideL f h).zip left) ((sideR (f + n - 1) h).zip right) ls f k) (f / 2 ^ k) ((f + n - 1) / 2 ^ k)
variable {f n h : Nat} {left right : List H32}
theorem RowCtx.le (c : RowCtx f n h ls left right) (k : Nat) : f / 2 ^ k ≤ (f + n - 1) / 2 ^ k := Nat.div_le_div_right (by have := c.n1; omega)
theorem RowCtx.zero (c : RowCtx f n h ls left right) : rowLv f n h ls left right 0 = ls := by
  have hl := c.len
  have h1 := c.n1
  refine List.ext_getElem (by rw [rowLv, rowV_len]; simp; omega) fun i h2 h3 => ?_
  have h4 : i < (f + n - 1) / 2 ^ 0 + 1 - f / 2 ^ 0 := by simp; omega
  have := rowV_get (g := refN ((sideL f h).zip left) ((sideR (f + n - 1) h).zip right) ls f 0) h4
  rw [getD_eq zeroH (by rw [rowV_len]; exact h4)] at this
  have h5 : (rowLv f n h ls left right 0)[i] = refN ((sideL f h).zip left) ((sideR (f + n - 1) h).zip right) ls f 0 (f / 2 ^ 0 + i) := this
  rw [h5, refN_leaf (lookL_none (Nat.le_add_right _ _)) (lookR_none (by simp; omega))]
  simp [List.getD, h3]
theorem RowCtx.last (c : RowCtx f n h ls left right) : rowLv f n h ls left right h = [refN ((sideL f h).zip left) ((sideR (f + n - 1) h).zip right) ls f h 0] := by
  have h1 := c.n1
  have h2 := c.fit
  rw [rowLv, Nat.div_eq_of_lt (by omega), Nat.div_eq_of_lt (by omega), rowV_one]
/-- What stands on both sides, put to the row: an even first one, an odd last one. -/
def rowMd (f n h : Nat) (ls left right : List H32) (k : Nat) : List H32 :=
  (if f / 2 ^ k % 2 = 1 then [left.getD (sideL f k).length zeroH] else []) ++ rowLv f n h ls left right k ++ (if (f + n - 1) / 2 ^ k % 2 = 0 then [right.getD (sideR (f + n - 1) k).length zeroH] else [])
theorem RowCtx.mid (c : RowCtx f n h ls left right) {k : Nat} (hk : k < h) :
    rowMd f n h ls left right k = rowV (refN ((sideL f h).zip left) ((sideR (f + n - 1) h).zip right) ls f k) (2 * (f / 2 ^ (k + 1))) (2 * ((f + n - 1) / 2 ^ (k + 1)) + 1) := by
  have hle := c.le k
  have ea : f / 2 ^ (k + 1) = f / 2 ^ k / 2 := by rw [half_step]
  have eb : (f + n - 1) / 2 ^ (k + 1) = (f + n - 1) / 2 ^ k / 2 := by rw [half_step]
  unfold rowMd rowLv
  have hL : ∀ (o : f / 2 ^ k % 2 = 1), left.getD (sideL f k).length zeroH = refN ((sideL f h).zip left) ((sideR (f + n - 1) h).zip right) ls f k (f / 2 ^ k - 1) := fun o => (refN_left (lookL_some c.lenL hk o)).symm
  have hR : ∀ (o : (f + n - 1) / 2 ^ k % 2 = 0), right.getD (sideR (f + n - 1) k).length zeroH = refN ((sideL f h).zip left) ((sideR (f + n - 1) h).zip right) ls f k ((f + n - 1) / 2 ^ k + 1) := fun o => (refN_right (lookL_none (by omega)) (lookR_some c.lenR hk o)).symm
  generalize refN ((sideL f h).zip left) ((sideR (f + n - 1) h).zip right) ls f k = g at hL hR ⊢
  rw [ea, eb]
  generalize hA : f / 2 ^ k = a at *
  generalize hB : (f + n - 1) / 2 ^ k = b at *
  have e1 : ((if a % 2 = 1 then [left.getD (sideL f k).length zeroH] else []) ++ rowV g a b : List H32) = rowV g (2 * (a / 2)) b := by
    split
    · rename_i o
      rw [hL o, List.singleton_append, rowV_cons (by omega) (by omega)]; congr 1; omega
    · rename_i o
      rw [List.nil_append]; congr 1; omega
  rw [e1]
  split
  · rename_i o
    rw [hR o, rowV_snoc (by omega)]; congr 1; omega
  · rename_i o
    rw [List.append_nil]; congr 1; omega
theorem RowCtx.midLen (c : RowCtx f n h ls left right) {k : Nat} (hk : k < h) : (rowMd f n h ls left right k).length = 2 * ((f + n - 1) / 2 ^ (k + 1) + 1 - f / 2 ^ (k + 1)) := by
  have := c.le (k + 1)
  rw [c.mid hk, rowV_len]; omega
theorem pairs_map {m : Nat} (F : Nat → H32) (ys : List H32) (hl : ys.length = m) (h : ∀ i (hi : i < m), F i = ys.getD i zeroH) : (List.finRange m).map (fun i : Fin m => F i.val) = ys := by
  refine List.ext_getElem (by rw [List.length_map, List.length_finRange, hl]) fun i h1 h2 => ?_
  have hi : i < m := by simpa using h1
  rw [List.getElem_map, ← getD_eq zeroH h2, ← h i hi]
  simp
theorem row_pairs (g : Nat → H32) {a b m lv : Nat} (hm : m = b + 1 - a) (ys : List H32) (hy : ys = rowV g (2 * a) (2 * b + 1)) : (List.finRange m).map (fun i : Fin m => joinH lv (ys.getD (2 * i.val) zeroH) (ys.getD (2 * i.val + 1) zeroH)) = rowV (fun q => joinH lv (g (2 * q)) (g (2 * q + 1))) a b := by
  subst hy
  refine pairs_map (fun i => joinH lv ((rowV g (2 * a) (2 * b + 1)).getD (2 * i) zeroH) ((rowV g (2 * a) (2 * b + 1)).getD (2 * i + 1) zeroH)) _ (by rw [rowV_len, hm]) fun i hi => ?_
  rw [rowV_get (g := fun q => joinH lv (g (2 * q)) (g (2 * q + 1))) (by omega)]
  exact (rowV_pairs (by omega)).symm
theorem rowV_congr {g g' : Nat → H32} {a b : Nat} (h : ∀ p, a ≤ p → p ≤ b → g p = g' p) : rowV g a b = rowV g' a b := by
  unfold rowV
  refine List.map_congr_left fun i hi => h _ (Nat.le_add_right _ _) ?_
  have := List.mem_range.1 hi; omega
theorem RowCtx.next (c : RowCtx f n h ls left right) {k m : Nat} (hk : k < h) (hm : m = (f + n - 1) / 2 ^ (k + 1) + 1 - f / 2 ^ (k + 1)) : (List.finRange m).map (fun i : Fin m => joinH (k + 1) ((rowMd f n h ls left right k).getD (2 * i.val) zeroH) ((rowMd f n h ls left right k).getD (2 * i.val + 1) zeroH)) = rowLv f n h ls left right (k + 1) := by
  rw [row_pairs (refN ((sideL f h).zip left) ((sideR (f + n - 1) h).zip right) ls f k) hm _ (c.mid hk)]
  exact rowV_congr fun p h1 h2 => (refN_join (lookL_none h1) (lookR_none h2)).symm
theorem row_len_le {f n : Nat} (h1 : 1 ≤ n) : ∀ k, (f + n - 1) / 2 ^ k + 1 - f / 2 ^ k ≤ n ∧ f / 2 ^ k ≤ (f + n - 1) / 2 ^ k
  | 0 => by simp; omega
  | k + 1 => by
    have h := row_len_le (f := f) h1 k
    rw [← half_step, ← half_step]
    generalize (f + n - 1) / 2 ^ k = b at h ⊢
    generalize f / 2 ^ k = a at h ⊢
    omega
theorem RowCtx.lenAt {f n h : Nat} {ls left right : List H32} (c : RowCtx f n h ls left right) (k : Nat) : 0 < (rowLv f n h ls left right k).length ∧ (rowLv f n h ls left right k).length ≤ n := by
  have h1 := row_len_le (f := f) c.n1 k
  rw [rowLv, rowV_len]
  omega
end Go.E
namespace Go.E
set_option linter.unusedVariables false
def spanN (h f : Nat) (ls left right : List H32) : H32 × Nat := if 1 ≤ ls.length ∧ ls.length ≤ 256 ∧ f + ls.length ≤ 2 ^ h then if (sideL f h).length = left.length ∧ (sideR (f + ls.length - 1) h).length = right.length then (refN ((sideL f h).zip left) ((sideR (f + ls.length - 1) h).zip right) ls f h 0, 0) else (zeroH, 5) else (zeroH, 1)
def spanR (z : Int) (f : Nat) (ls left right : List H32) : H32 × Nat := if z < 0 ∨ 32 < z then (zeroH, 1) else spanN z.toNat f ls left right
theorem spanR_nat {h : Nat} (hh : h ≤ 32) (f : Nat) (ls left right : List H32) : spanR (h : Int) f ls left right = spanN h f ls left right := by rw [spanR, if_neg (by omega), Int.toNat_natCast]
theorem spanN_1 {h f : Nat} {ls left right : List H32} (g : ¬ (1 ≤ ls.length ∧ ls.length ≤ 256 ∧ f + ls.length ≤ 2 ^ h)) : spanN h f ls left right = (zeroH, 1) := if_neg g
theorem spanN_5 {h f : Nat} {ls left right : List H32} (g : 1 ≤ ls.length ∧ ls.length ≤ 256 ∧ f + ls.length ≤ 2 ^ h) (g2 : ¬ ((sideL f h).length = left.length ∧ (sideR (f + ls.length - 1) h).length = right.length)) : spanN h f ls left right = (zeroH, 5) := by rw [spanN, if_pos g, if_neg g2]
theorem spanN_0 {h f : Nat} {ls left right : List H32} (g : 1 ≤ ls.length ∧ ls.length ≤ 256 ∧ f + ls.length ≤ 2 ^ h) (g2 : (sideL f h).length = left.length ∧ (sideR (f + ls.length - 1) h).length = right.length) : spanN h f ls left right = (refN ((sideL f h).zip left) ((sideR (f + ls.length - 1) h).zip right) ls f h 0, 0) := by rw [spanN, if_pos g, if_pos g2]
/-- A node that is beside the span, or above some of it. -/
def NodeOk (zl zr : List ((Nat × Nat) × H32)) (f last l p : Nat) : Prop := (f / 2 ^ l ≤ p ∧ p ≤ last / 2 ^ l) ∨ look (l, p) zl ≠ none ∨ look (l, p) zr ≠ none
theorem NodeOk.kids {f n h : Nat} {ls left right : List H32} (c : RowCtx f n h ls left right) {l p : Nat} (hl : l + 1 ≤ h) (k : NodeOk ((sideL f h).zip left) ((sideR (f + n - 1) h).zip right) f (f + n - 1) (l + 1) p) (e0 : look (l + 1, p) ((sideL f h).zip left) = none) (e1 : look (l + 1, p) ((sideR (f + n - 1) h).zip right) = none) :
    NodeOk ((sideL f h).zip left) ((sideR (f + n - 1) h).zip right) f (f + n - 1) l (2 * p) ∧ NodeOk ((sideL f h).zip left) ((sideR (f + n - 1) h).zip right) f (f + n - 1) l (2 * p + 1) := by
  rcases k with ⟨k1, k2⟩ | k | k
  · rw [← half_step] at k1 k2
    have hle := c.le l
    have hL : f / 2 ^ l % 2 = 1 → look (l, f / 2 ^ l - 1) ((sideL f h).zip left) ≠ none := fun o e => by rw [lookL_some c.lenL hl o] at e; cases e
    have hR : (f + n - 1) / 2 ^ l % 2 = 0 → look (l, (f + n - 1) / 2 ^ l + 1) ((sideR (f + n - 1) h).zip right) ≠ none := fun o e => by rw [lookR_some c.lenR hl o] at e; cases e
    unfold NodeOk
    generalize f / 2 ^ l = a at *
    generalize (f + n - 1) / 2 ^ l = b at *
    constructor
    · by_cases g : a ≤ 2 * p
      · left; omega
      · right; left
        have := hL (by omega)
        rwa [show 2 * p = a - 1 by omega]
    · by_cases g : 2 * p + 1 ≤ b
      · left; omega
      · right; right
        have := hR (by omega)
        rwa [show 2 * p + 1 = b + 1 by omega]
  · exact absurd e0 k
  · exact absurd e1 k
theorem NodeOk.leaf {zl zr : List ((Nat × Nat) × H32)} {f last p : Nat} (k : NodeOk zl zr f last 0 p) (e0 : look (0, p) zl = none) (e1 : look (0, p) zr = none) : f ≤ p ∧ p ≤ last := by
  rcases k with k | k | k
  · simpa using k
  · exact absurd e0 k
  · exact absurd e1 k
theorem NodeOk.root {f n h : Nat} {ls left right : List H32} (c : RowCtx f n h ls left right) : NodeOk ((sideL f h).zip left) ((sideR (f + n - 1) h).zip right) f (f + n - 1) h 0 := by
  have h1 := c.n1
  have h2 := c.fit
  exact .inl ⟨by rw [Nat.div_eq_of_lt (by omega)]; exact Nat.le_refl _, Nat.zero_le _⟩
end Go.E
namespace Go.E
set_option linter.unusedVariables false
/-- The texts of a level. -/
def rowX (f n h : Nat) (ls left right : List H32) (k : Nat) : List (List UInt8) :=
  (List.range ((f + n - 1) / 2 ^ (k + 1) + 1 - f / 2 ^ (k + 1))).map fun i => joinT (k + 1) ((rowMd f n h ls left right k).getD (2 * i) zeroH) ((rowMd f n h ls left right k).getD (2 * i + 1) zeroH)
def sideX (f n h : Nat) (ls left right : List H32) (k : Nat) : List (List UInt8) := (List.range k).flatMap (rowX f n h ls left right)
theorem sideX_succ (f n h : Nat) (ls left right : List H32) (k : Nat) : sideX f n h ls left right (k + 1) = sideX f n h ls left right k ++ rowX f n h ls left right k := by
  unfold sideX; rw [List.range_succ, List.flatMap_append]; simp
theorem rowX_len (f n h : Nat) (ls left right : List H32) (k : Nat) : (rowX f n h ls left right k).length = (f + n - 1) / 2 ^ (k + 1) + 1 - f / 2 ^ (k + 1) := by simp [rowX]
theorem sideX_same (f n h : Nat) (ls left right ls' left' right' : List H32) : ∀ k, (sideX f n h ls left right k).length = (sideX f n h ls' left' right' k).length
  | 0 => rfl
  | k + 1 => by rw [sideX_succ, sideX_succ, List.length_append, List.length_append, sideX_same f n h ls left right ls' left' right' k, rowX_len, rowX_len]
theorem sideX_len {f n h : Nat} (h1 : 1 ≤ n) (ls left right : List H32) : ∀ k, (sideX f n h ls left right k).length ≤ n * k
  | 0 => Nat.zero_le _
  | k + 1 => by
    have i := sideX_len (f := f) (h := h) h1 ls left right k
    have j := (row_len_le (f := f) h1 (k + 1)).1
    rw [sideX_succ, List.length_append, rowX_len, Nat.mul_succ]; omega
variable {f n h : Nat} {ls left right ls' left' right' : List H32}
theorem rowX_get {k i : Nat} (hi : i < (f + n - 1) / 2 ^ (k + 1) + 1 - f / 2 ^ (k + 1)) : (rowX f n h ls left right k).getD i [] = joinT (k + 1) ((rowMd f n h ls left right k).getD (2 * i) zeroH) ((rowMd f n h ls left right k).getD (2 * i + 1) zeroH) := by
  simp [rowX, List.getD, hi]
theorem rowX_sha (c : RowCtx f n h ls left right) {k i : Nat} (hk : k < h) (hi : i < (f + n - 1) / 2 ^ (k + 1) + 1 - f / 2 ^ (k + 1)) : shaH ((rowX f n h ls left right k).getD i []) = (rowLv f n h ls left right (k + 1)).getD i zeroH := by
  have e := c.next hk rfl
  rw [rowX_get hi, ← e]
  simp [List.getD, hi, joinH]
theorem row_bind (c : RowCtx f n h ls left right) (c' : RowCtx f n h ls' left' right') {k : Nat} (hk : k < h) (e : rowLv f n h ls left right (k + 1) = rowLv f n h ls' left' right' (k + 1)) :
    rowMd f n h ls left right k = rowMd f n h ls' left' right' k ∨ ∃ q ∈ (rowX f n h ls left right k).zip (rowX f n h ls' left' right' k), isF q = true := by
  by_cases hx : ∃ i, i < (f + n - 1) / 2 ^ (k + 1) + 1 - f / 2 ^ (k + 1) ∧ (rowX f n h ls left right k).getD i [] ≠ (rowX f n h ls' left' right' k).getD i []
  · obtain ⟨i, hi, hne⟩ := hx
    right
    refine ⟨((rowX f n h ls left right k).getD i [], (rowX f n h ls' left' right' k).getD i []), ?_, isF_iff.2 ⟨hne, by rw [rowX_sha c hk hi, rowX_sha c' hk hi, e]⟩⟩
    refine List.mem_iff_getElem.2 ⟨i, by rw [List.length_zip, rowX_len, rowX_len]; omega, ?_⟩
    rw [List.getElem_zip, getD_eq [] (by rw [rowX_len]; exact hi), getD_eq [] (by rw [rowX_len]; exact hi)]
  · left
    have hl := c.midLen hk
    have hl' := c'.midLen hk
    refine List.ext_getElem (by rw [hl, hl']) fun j h1 h2 => ?_
    have hi : j / 2 < (f + n - 1) / 2 ^ (k + 1) + 1 - f / 2 ^ (k + 1) := by omega
    have heq : (rowX f n h ls left right k).getD (j / 2) [] = (rowX f n h ls' left' right' k).getD (j / 2) [] := Decidable.byContradiction fun hc => hx ⟨_, hi, hc⟩
    rw [rowX_get hi, rowX_get hi] at heq
    obtain ⟨e1, e2⟩ := joinT_inj heq
    rw [← getD_eq zeroH h1, ← getD_eq zeroH h2]
    rcases Nat.mod_two_eq_zero_or_one j with o | o
    · rw [show j = 2 * (j / 2) by omega]; exact e1
    · rw [show j = 2 * (j / 2) + 1 by omega]; exact e2
theorem md_parts (c : RowCtx f n h ls left right) (c' : RowCtx f n h ls' left' right') {k : Nat} (e : rowMd f n h ls left right k = rowMd f n h ls' left' right' k) :
    rowLv f n h ls left right k = rowLv f n h ls' left' right' k ∧ (f / 2 ^ k % 2 = 1 → left.getD (sideL f k).length zeroH = left'.getD (sideL f k).length zeroH) ∧ ((f + n - 1) / 2 ^ k % 2 = 0 → right.getD (sideR (f + n - 1) k).length zeroH = right'.getD (sideR (f + n - 1) k).length zeroH) := by
  unfold rowMd at e
  have hl : (rowLv f n h ls left right k).length = (rowLv f n h ls' left' right' k).length := by rw [rowLv, rowLv, rowV_len, rowV_len]
  have a := List.append_inj e (by rw [List.length_append, List.length_append, hl]; split <;> rfl)
  have b := List.append_inj a.1 (by split <;> rfl)
  refine ⟨b.2, fun o => ?_, fun o => ?_⟩
  · have := b.1; rw [if_pos o, if_pos o] at this; injection this
  · have := a.2; rw [if_pos o, if_pos o] at this; injection this
theorem left_all : ∀ h, (∀ k, k < h → f / 2 ^ k % 2 = 1 → left.getD (sideL f k).length zeroH = left'.getD (sideL f k).length zeroH) → ∀ j, j < (sideL f h).length → left.getD j zeroH = left'.getD j zeroH
  | 0, _, j, hj => by simp [sideL] at hj
  | h + 1, hk, j, hj => by
    by_cases o : f / 2 ^ h % 2 = 1
    · rw [sideL_1 o, List.length_append, List.length_singleton] at hj
      rcases Nat.lt_or_ge j (sideL f h).length with g | g
      · exact left_all h (fun k hh => hk k (by omega)) j g
      · obtain rfl : j = (sideL f h).length := by omega
        exact hk h (by omega) o
    · rw [sideL_0 o] at hj
      exact left_all h (fun k hh => hk k (by omega)) j hj
theorem right_all {b : Nat} : ∀ h, (∀ k, k < h → b / 2 ^ k % 2 = 0 → right.getD (sideR b k).length zeroH = right'.getD (sideR b k).length zeroH) → ∀ j, j < (sideR b h).length → right.getD j zeroH = right'.getD j zeroH
  | 0, _, j, hj => by simp [sideR] at hj
  | h + 1, hk, j, hj => by
    by_cases o : b / 2 ^ h % 2 = 0
    · rw [sideR_1 o, List.length_append, List.length_singleton] at hj
      rcases Nat.lt_or_ge j (sideR b h).length with g | g
      · exact right_all h (fun k hh => hk k (by omega)) j g
      · obtain rfl : j = (sideR b h).length := by omega
        exact hk h (by omega) o
    · rw [sideR_0 o] at hj
      exact right_all h (fun k hh => hk k (by omega)) j hj
theorem side_bind (c : RowCtx f n h ls left right) (c' : RowCtx f n h ls' left' right') : ∀ k, k ≤ h → rowLv f n h ls left right k = rowLv f n h ls' left' right' k → (∃ q ∈ (sideX f n h ls left right k).zip (sideX f n h ls' left' right' k), isF q = true) ∨
    (rowLv f n h ls left right 0 = rowLv f n h ls' left' right' 0 ∧ ∀ j, j < k → rowMd f n h ls left right j = rowMd f n h ls' left' right' j)
  | 0, _, e => .inr ⟨e, fun j hj => absurd hj (Nat.not_lt_zero _)⟩
  | k + 1, hk, e => by
    rw [sideX_succ, sideX_succ]
    rcases row_bind c c' (by omega) e with g | ⟨q, hq, g⟩
    · rcases side_bind c c' k (by omega) (md_parts c c' g).1 with ⟨q, hq, g2⟩ | ⟨a, b⟩
      · exact .inl ⟨q, mem_zip_app (sideX_same ..) (.inl hq), g2⟩
      · exact .inr ⟨a, fun j hj => (Nat.lt_or_ge j k).elim (b j) (fun hge => by (obtain rfl : j = k := by omega); exact g)⟩
    · exact .inl ⟨q, mem_zip_app (sideX_same ..) (.inr hq), g⟩
theorem ext_getD {a b : List H32} (hl : a.length = b.length) (h : ∀ j, j < a.length → a.getD j zeroH = b.getD j zeroH) : a = b := by
  refine List.ext_getElem hl fun j h1 h2 => ?_
  have := h j h1
  rwa [getD_eq zeroH h1, getD_eq zeroH h2] at this
/-- The texts of a side, where it comes to a root. -/
def sideT (z : Int) (f : Nat) (ls left right : List H32) : List (List UInt8) := if (spanR z f ls left right).2 = 0 then sideX f ls.length z.toNat ls left right z.toNat else []
theorem spanR_ok {z : Int} (hz : (spanR z f ls left right).2 = 0) : ∃ h : Nat, z = (h : Int) ∧ h ≤ 32 ∧ ls.length ≤ 256 ∧ RowCtx f ls.length h ls left right ∧ (spanR z f ls left right).1 = refN ((sideL f h).zip left) ((sideR (f + ls.length - 1) h).zip right) ls f h 0 := by
  by_cases hb : z < 0 ∨ 32 < z
  · rw [spanR, if_pos hb] at hz; exact absurd hz (by decide)
  · obtain ⟨h, rfl⟩ : ∃ n : Nat, z = (n : Int) := ⟨z.toNat, by omega⟩
    have hh : h ≤ 32 := by omega
    rw [spanR_nat hh] at hz ⊢
    by_cases g : 1 ≤ ls.length ∧ ls.length ≤ 256 ∧ f + ls.length ≤ 2 ^ h
    · by_cases g2 : (sideL f h).length = left.length ∧ (sideR (f + ls.length - 1) h).length = right.length
      · exact ⟨h, rfl, hh, g.2.1, ⟨g.1, g.2.2, rfl, g2.1, g2.2⟩, by rw [spanN_0 g g2]⟩
      · rw [spanN_5 g g2] at hz; exact absurd hz (by decide)
    · rw [spanN_1 g] at hz; exact absurd hz (by decide)
theorem side_find {z : Int} (h1 : (spanR z f ls left right).2 = 0) (h2 : (spanR z f ls' left' right').2 = 0) (hl : ls.length = ls'.length) (he : (spanR z f ls left right).1 = (spanR z f ls' left' right').1) (hn : ¬ (ls = ls' ∧ left = left' ∧ right = right')) : ∃ q ∈ zipX (sideT z f ls left right) (sideT z f ls' left' right'), isF q = true := by
  obtain ⟨h, rfl, hh, _, c, a⟩ := spanR_ok h1
  obtain ⟨h', e, hh', _, c', b⟩ := spanR_ok h2
  obtain rfl : h = h' := by omega
  rw [a, b] at he
  unfold sideT
  rw [if_pos h1, if_pos h2, Int.toNat_natCast, ← hl]
  rw [← hl] at c' he
  rw [zipX_eq (sideX_same ..)]
  rcases side_bind c c' h (Nat.le_refl _) (by rw [c.last, c'.last, he]) with g | ⟨g1, g2⟩
  · exact g
  · refine absurd ⟨?_, ?_, ?_⟩ hn
    · rw [← c.zero, ← c'.zero]; exact g1
    · exact ext_getD (by rw [← c.lenL, ← c'.lenL]) fun j hj => left_all h (fun k hk o => (md_parts c c' (g2 k hk)).2.1 o) j (by rw [c.lenL]; exact hj)
    · exact ext_getD (by rw [← c.lenR, ← c'.lenR]) fun j hj => right_all h (fun k hk o => (md_parts c c' (g2 k hk)).2.2 o) j (by rw [c.lenR]; exact hj)
end Go.E
