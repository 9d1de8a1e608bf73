/-
  Plain words: the nodes beside a span.
-/
import Derived.Test.YtlneklemjfefpaaDoorTO
namespace Go.E
set_option linter.unusedVariables false
abbrev Sd := List (Nat × Nat)
/-- What stands to the left of a span that begins here; to the right of one that ends here: on the first levels. -/
def sideL (a : Nat) : Nat → Sd
  | 0 => []
  | k + 1 => if a / 2 ^ k % 2 = 1 then sideL a k ++ [(k, a / 2 ^ k - 1)] else sideL a k
def sideR (b : Nat) : Nat → Sd
  | 0 => []
  | k + 1 => if b / 2 ^ k % 2 = 0 then sideR b k ++ [(k, b / 2 ^ k + 1)] else sideR b k
theorem sideL_1 {a k : Nat} (h : a / 2 ^ k % 2 = 1) : sideL a (k + 1) = sideL a k ++ [(k, a / 2 ^ k - 1)] := if_pos h
theorem sideL_0 {a k : Nat} (h : ¬ a / 2 ^ k % 2 = 1) : sideL a (k + 1) = sideL a k := if_neg h
theorem sideR_1 {b k : Nat} (h : b / 2 ^ k % 2 = 0) : sideR b (k + 1) = sideR b k ++ [(k, b / 2 ^ k + 1)] := if_pos h
theorem sideR_0 {b k : Nat} (h : ¬ b / 2 ^ k % 2 = 0) : sideR b (k + 1) = sideR b k := if_neg h
theorem side_left {height a k : Nat} (ha : a < 2 ^ height) (hk : k < height) (h : a / 2 ^ k % 2 = 1) : okAt height (k, a / 2 ^ k - 1) := by
  have h1 := div_lt_pow ha (Nat.le_of_lt hk)
  exact ⟨Nat.le_of_lt hk, by show a / 2 ^ k - 1 < 2 ^ (height - k); generalize a / 2 ^ k = n at h1 ⊢; omega⟩
theorem side_right {height b k : Nat} (hb : b < 2 ^ height) (hk : k < height) (h : b / 2 ^ k % 2 = 0) : okAt height (k, b / 2 ^ k + 1) := by
  have h1 := div_lt_pow hb (Nat.le_of_lt hk)
  have h2 := pow_split hk
  refine ⟨Nat.le_of_lt hk, ?_⟩
  show b / 2 ^ k + 1 < 2 ^ (height - k)
  rw [h2] at h1 ⊢
  generalize b / 2 ^ k = n at h h1 ⊢
  generalize 2 ^ (height - (k + 1)) = m at h1 ⊢
  omega
/-- A span that a tree has. -/
def spanOk (height first : Nat) (many : Int) : Prop := 1 ≤ many ∧ many ≤ 256 ∧ first + many.toNat ≤ 2 ^ height
instance (height first : Nat) (many : Int) : Decidable (spanOk height first many) := inferInstanceAs (Decidable (_ ∧ _ ∧ _))
theorem sideL_len (a : Nat) : ∀ k, (sideL a k).length ≤ k
  | 0 => Nat.le_refl _
  | k + 1 => by
    have := sideL_len a k
    rw [sideL]; split <;> simp <;> omega
theorem sideR_len (b : Nat) : ∀ k, (sideR b k).length ≤ k
  | 0 => Nat.le_refl _
  | k + 1 => by
    have := sideR_len b k
    rw [sideR]; split <;> simp <;> omega
end Go.E
