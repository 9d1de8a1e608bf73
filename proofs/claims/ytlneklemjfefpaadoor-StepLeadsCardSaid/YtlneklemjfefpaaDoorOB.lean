/-
  The program logic: two truth values compared.
-/
import Derived.Test.YtlneklemjfefpaaDoorEQ
import Derived.Laws.StructEq
namespace Go.E
set_option linter.unusedVariables false
variable {C : Ctx} {env : Env} {L : List Assn}
variable {dst : Option Tmp} {ty ty2 T : TypeId} {pos : String} {after : Array Edge} {guard : Option (Nat × Bool)} {x y : Operand} {a b : Bool}
end Go.E
