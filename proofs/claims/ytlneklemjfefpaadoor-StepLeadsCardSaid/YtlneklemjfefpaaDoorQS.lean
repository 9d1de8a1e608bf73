/-
  The program logic, fifteenth part: bytes as a string, strings compared, structs of two numbers compared, two bundles told as one.
-/
import Derived.Test.YtlneklemjfefpaaDoorP1
import Derived.Test.YtlneklemjfefpaaDoorP2
import Derived.Laws.IdiomStrings
namespace Go.E
set_option linter.unusedVariables false
section
variable {C : Ctx} {env : Env} {L : List Assn} {dst : Option Tmp} {ty ty2 : TypeId} {pos : String} {after : Array Edge} {guard : Option (Nat × Bool)} {x y : Operand} {T e src dstT : TypeId}
end
variable {C : Ctx} {Q : EQ} {env : Env} {ops : Array Oper}
/-- A node's part, whatever its lists. -/
def RefOk (zs : List ((Nat × Nat) × H32)) (zl : List (Nat × H32)) (l p : Nat) : Prop := ∃ xs ls bs, Part zs zl l p xs ls bs ∧ xs.length ≤ 256
variable {zs : List ((Nat × Nat) × H32)} {zl : List (Nat × H32)} {l p : Nat}
theorem RefOk.leaf (h : RefOk zs zl 0 p) (e : look (0, p) zs = none) (e2 : look p zl = none) : False := by
  obtain ⟨xs, ls, bs, k, _⟩ := h
  by_cases hx : xs = []
  · subst hx; rw [k.found] at e; cases e
  · rw [(k.leaf hx).2] at e2; cases e2
theorem RefOk.len (h : RefOk zs zl l p) : (refT zs zl l p).length ≤ 256 * l := by
  obtain ⟨xs, ls, bs, k, kn⟩ := h
  rw [Part.txt l p xs ls bs k]; exact Nat.le_trans (climbT_len ..) (Nat.mul_le_mul_right _ kn)
end Go.E
