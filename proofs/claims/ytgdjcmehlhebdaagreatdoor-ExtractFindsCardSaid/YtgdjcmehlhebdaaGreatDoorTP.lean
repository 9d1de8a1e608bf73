/-
  Plain words: the nodes beside a span.
-/
import Derived.Test.YtgdjcmehlhebdaaGreatDoorP2
namespace Go.E
set_option linter.unusedVariables false
abbrev Sd := List (Nat × Nat)
/-- A span that a tree has. -/
def spanOk (height first : Nat) (many : Int) : Prop := 1 ≤ many ∧ many ≤ 256 ∧ first + many.toNat ≤ 2 ^ height
instance (height first : Nat) (many : Int) : Decidable (spanOk height first many) := inferInstanceAs (Decidable (_ ∧ _ ∧ _))
end Go.E
