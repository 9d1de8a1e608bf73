/-
  Plain words: the root that a span comes to.
-/
import Derived.Test.YtlneklemjfefpaaDoorRW
namespace Go.E
set_option linter.unusedVariables false
def spanN (h f : Nat) (ls left right : List H32) : H32 × Nat := if 1 ≤ ls.length ∧ ls.length ≤ 256 ∧ f + ls.length ≤ 2 ^ h then if (sideL f h).length = left.length ∧ (sideR (f + ls.length - 1) h).length = right.length then (refN ((sideL f h).zip left) ((sideR (f + ls.length - 1) h).zip right) ls f h 0, 0) else (zeroH, 5) else (zeroH, 1)
def spanR (z : Int) (f : Nat) (ls left right : List H32) : H32 × Nat := if z < 0 ∨ 32 < z then (zeroH, 1) else spanN z.toNat f ls left right
def chkS (root : H32) (z : Int) (f : Nat) (ls left right : List H32) : Nat := if (spanR z f ls left right).2 ≠ 0 then (spanR z f ls left right).2 else if (spanR z f ls left right).1 ≠ root then 5 else 0
theorem spanR_nat {h : Nat} (hh : h ≤ 32) (f : Nat) (ls left right : List H32) : spanR (h : Int) f ls left right = spanN h f ls left right := by rw [spanR, if_neg (by omega), Int.toNat_natCast]
theorem spanN_1 {h f : Nat} {ls left right : List H32} (g : ¬ (1 ≤ ls.length ∧ ls.length ≤ 256 ∧ f + ls.length ≤ 2 ^ h)) : spanN h f ls left right = (zeroH, 1) := if_neg g
theorem spanN_5 {h f : Nat} {ls left right : List H32} (g : 1 ≤ ls.length ∧ ls.length ≤ 256 ∧ f + ls.length ≤ 2 ^ h) (g2 : ¬ ((sideL f h).length = left.length ∧ (sideR (f + ls.length - 1) h).length = right.length)) : spanN h f ls left right = (zeroH, 5) := by rw [spanN, if_pos g, if_neg g2]
theorem spanN_0 {h f : Nat} {ls left right : List H32} (g : 1 ≤ ls.length ∧ ls.length ≤ 256 ∧ f + ls.length ≤ 2 ^ h) (g2 : (sideL f h).length = left.length ∧ (sideR (f + ls.length - 1) h).length = right.length) : spanN h f ls left right = (refN ((sideL f h).zip left) ((sideR (f + ls.length - 1) h).zip right) ls f h 0, 0) := by rw [spanN, if_pos g, if_pos g2]
/-- A node that is beside the span, or above some of it. -/
def NodeOk (zl zr : List ((Nat × Nat) × H32)) (f last l p : Nat) : Prop := (f / 2 ^ l ≤ p ∧ p ≤ last / 2 ^ l) ∨ look (l, p) zl ≠ none ∨ look (l, p) zr ≠ none
theorem NodeOk.kids {f n h : Nat} {ls left right : List H32} (c : RowCtx f n h ls left right) {l p : Nat} (hl : l + 1 ≤ h) (k : NodeOk ((sideL f h).zip left) ((sideR (f + n - 1) h).zip right) f (f + n - 1) (l + 1) p) (e0 : look (l + 1, p) ((sideL f h).zip left) = none) (e1 : look (l + 1, p) ((sideR (f + n - 1) h).zip right) = none) :
    NodeOk ((sideL f h).zip left) ((sideR (f + n - 1) h).zip right) f (f + n - 1) l (2 * p) ∧ NodeOk ((sideL f h).zip left) ((sideR (f + n - 1) h).zip right) f (f + n - 1) l (2 * p + 1) := by
  rcases k with ⟨k1, k2⟩ | k | k
  · rw [← half_step] at k1 k2
    have hle := c.le l
    have hL : f / 2 ^ l % 2 = 1 → look (l, f / 2 ^ l - 1) ((sideL f h).zip left) ≠ none := fun o e => by rw [lookL_some c.lenL hl o] at e; cases e
    have hR : (f + n - 1) / 2 ^ l % 2 = 0 → look (l, (f + n - 1) / 2 ^ l + 1) ((sideR (f + n - 1) h).zip right) ≠ none := fun o e => by rw [lookR_some c.lenR hl o] at e; cases e
    unfold NodeOk
    generalize f / 2 ^ l = a at *
    generalize (f + n - 1) / 2 ^ l = b at *
    constructor
    · by_cases g : a ≤ 2 * p
      · left; omega
      · right; left
        have := hL (by omega)
        rwa [show 2 * p = a - 1 by omega]
    · by_cases g : 2 * p + 1 ≤ b
      · left; omega
      · right; right
        have := hR (by omega)
        rwa [show 2 * p + 1 = b + 1 by omega]
  · exact absurd e0 k
  · exact absurd e1 k
theorem NodeOk.leaf {zl zr : List ((Nat × Nat) × H32)} {f last p : Nat} (k : NodeOk zl zr f last 0 p) (e0 : look (0, p) zl = none) (e1 : look (0, p) zr = none) : f ≤ p ∧ p ≤ last := by
  rcases k with k | k | k
  · simpa using k
  · exact absurd e0 k
  · exact absurd e1 k
theorem NodeOk.root {f n h : Nat} {ls left right : List H32} (c : RowCtx f n h ls left right) : NodeOk ((sideL f h).zip left) ((sideR (f + n - 1) h).zip right) f (f + n - 1) h 0 := by
  have h1 := c.n1
  have h2 := c.fit
  exact .inl ⟨by rw [Nat.div_eq_of_lt (by omega)]; exact Nat.le_refl _, Nat.zero_le _⟩
end Go.E
