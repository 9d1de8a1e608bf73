/-
  Sorting a slice of numbers: the block that holds it; what 'less' is; words of 64 bits.
-/
import Derived.Test.YtgdjcmehlhebdaaGreatDoorP1
import Derived.Test.YtgdjcmehlhebdaaGreatDoorE3
import Derived.Test.YtgdjcmehlhebdaaGreatDoorGR
import Derived.Sort.Walk13a
import Derived.Sort.LotD4
import Derived.Sort.AssemblyPlain
namespace Go.E
set_option linter.unusedVariables false
@[reducible] def cutQ {γ : Type} (mods : List Nat) (vars : γ → List (Nat × Value)) (H : γ → List Assn) (inv : γ → Prop) (env0 : Env) (Q : EQ) : EQ := fun x e L => match x with
  | .normal => ∃ g', inv g' ∧ Agr mods (vars g') env0 e ∧ Sub (H g') L
  | x => Q x e L
def ltN (x y : Nat) : Bool := decide (x < y)
theorem Qt.index1 {C : Ctx} {L : List Assn} {env : Env} {dst : Option Tmp} {T : TypeId} {x y : Operand} {ty : TypeId} {pos : String} {after : Array Edge} {guard : Option (Nat × Bool)} {e : TypeId} {b N c i : Nat} {ki : IntKind} {cs : List Value} (ht : C.P.underlying T = some (.slice e)) (hsz : (C.P.info? e).map (·.size) = some 1) (hx : env.ev x = .slice (some ⟨b, 0, none⟩) N c) (hy : env.ev y = .int ki (i : Int)) (hi : i < N)
    (h : Has C L (SlA (some ⟨b, 0, none⟩) cs)) (hc : i * 1 < cs.length) : Qt C L ⟨dst, .indexAddr T x y, ty, pos, after, guard⟩ env (.pointer (some ⟨b, i, none⟩)) :=
  Qt.as (Qt.index ht hsz hx hy hi h hc) (by simp [add_cell])
/-- The sorted list. -/
def srt (xs : List Nat) : List Nat := xs.mergeSort (fun x y => !ltN y x)
end Go.E
