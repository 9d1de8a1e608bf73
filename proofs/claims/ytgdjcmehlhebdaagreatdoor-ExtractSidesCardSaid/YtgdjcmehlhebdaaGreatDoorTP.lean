/-
  Plain words: the nodes beside a span.
-/
import Derived.Test.YtgdjcmehlhebdaaGreatDoorP2
namespace Go.E
set_option linter.unusedVariables false
abbrev Sd := List (Nat × Nat)
/-- What stands to the left of a span that begins here; to the right of one that ends here: on the first levels. -/
def sideL (a : Nat) : Nat → Sd
  | 0 => []
  | k + 1 => if a / 2 ^ k % 2 = 1 then sideL a k ++ [(k, a / 2 ^ k - 1)] else sideL a k
def sideR (b : Nat) : Nat → Sd
  | 0 => []
  | k + 1 => if b / 2 ^ k % 2 = 0 then sideR b k ++ [(k, b / 2 ^ k + 1)] else sideR b k
theorem sideL_1 {a k : Nat} (h : a / 2 ^ k % 2 = 1) : sideL a (k + 1) = sideL a k ++ [(k, a / 2 ^ k - 1)] := if_pos h
theorem sideL_0 {a k : Nat} (h : ¬ a / 2 ^ k % 2 = 1) : sideL a (k + 1) = sideL a k := if_neg h
theorem sideR_1 {b k : Nat} (h : b / 2 ^ k % 2 = 0) : sideR b (k + 1) = sideR b k ++ [(k, b / 2 ^ k + 1)] := if_pos h
theorem sideR_0 {b k : Nat} (h : ¬ b / 2 ^ k % 2 = 0) : sideR b (k + 1) = sideR b k := if_neg h
/-- A span that a tree has. -/
def spanOk (height first : Nat) (many : Int) : Prop := 1 ≤ many ∧ many ≤ 256 ∧ first + many.toNat ≤ 2 ^ height
instance (height first : Nat) (many : Int) : Decidable (spanOk height first many) := inferInstanceAs (Decidable (_ ∧ _ ∧ _))
theorem sideL_len (a : Nat) : ∀ k, (sideL a k).length ≤ k
  | 0 => Nat.le_refl _
  | k + 1 => by
    have := sideL_len a k
    rw [sideL]; split <;> simp <;> omega
theorem sideR_len (b : Nat) : ∀ k, (sideR b k).length ≤ k
  | 0 => Nat.le_refl _
  | k + 1 => by
    have := sideR_len b k
    rw [sideR]; split <;> simp <;> omega
end Go.E
