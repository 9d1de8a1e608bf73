/-
  Plain words: climbing from a leaf, and cutting.
-/
import Derived.Test.YtlneklemjfefpaaDoorTN
import Derived.Test.YtlneklemjfefpaaDoorGR
import Derived.Test.YtlneklemjfefpaaDoorE2
namespace Go.E
set_option linter.unusedVariables false
def fitsP (i n : Nat) : Prop := n ≤ 32 ∧ i / 2 ^ n = 0
instance (i n : Nat) : Decidable (fitsP i n) := inferInstanceAs (Decidable (_ ∧ _))
theorem half_step (i k : Nat) : i / 2 ^ k / 2 = i / 2 ^ (k + 1) := by rw [← half_pow, Nat.pow_one]
variable {C : Ctx} {Q : EQ} {env : Env} {ops : Array Oper}
end Go.E
