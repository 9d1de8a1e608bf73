/-
  Sorting a slice of numbers: the block that holds it; what 'less' is; words of 64 bits.
-/
import Derived.Test.YtgdjcmehlhebdaaGreatDoorP1
import Derived.Test.YtgdjcmehlhebdaaGreatDoorE3
import Derived.Test.YtgdjcmehlhebdaaGreatDoorGR
import Derived.Sort.Walk13a
import Derived.Sort.LotD4
import Derived.Sort.AssemblyPlain
namespace Go.E
set_option linter.unusedVariables false
@[reducible] def cutQ {γ : Type} (mods : List Nat) (vars : γ → List (Nat × Value)) (H : γ → List Assn) (inv : γ → Prop) (env0 : Env) (Q : EQ) : EQ := fun x e L => match x with
  | .normal => ∃ g', inv g' ∧ Agr mods (vars g') env0 e ∧ Sub (H g') L
  | x => Q x e L
def ltN (x y : Nat) : Bool := decide (x < y)
/-- The sorted list. -/
def srt (xs : List Nat) : List Nat := xs.mergeSort (fun x y => !ltN y x)
end Go.E
