/-
  The program logic: two truth values compared.
-/
import Derived.Test.YtgdjcmehlhebdaaGreatDoorEQ
import Derived.Laws.StructEq
namespace Go.E
set_option linter.unusedVariables false
variable {C : Ctx} {env : Env} {L : List Assn}
variable {dst : Option Tmp} {ty ty2 T : TypeId} {pos : String} {after : Array Edge} {guard : Option (Nat × Bool)} {x y : Operand} {a b : Bool}
theorem Qt.neb (ht : C.P.underlying T = some .bool) (hx : env.ev x = .bool a) (hy : env.ev y = .bool b) : Qt C L ⟨dst, .binOp .neq T x y ty2, ty, pos, after, guard⟩ env (.bool (a != b)) := fun w _ => by
  have h : (Op.equal T (.bool a) (.bool b)).run C.P w = .ok (a == b) w := run_equalIn_bool' w 9999 T a b ht
  simp [execOp, hx, hy, eqGuard, binOp, h]
  cases a <;> cases b <;> rfl
end Go.E
