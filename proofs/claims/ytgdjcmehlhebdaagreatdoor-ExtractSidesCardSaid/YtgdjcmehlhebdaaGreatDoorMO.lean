/-
  Arguments opened: what a reading says of the cells. Structs of five fields by value; slices of numbers.
-/
import Derived.Test.YtgdjcmehlhebdaaGreatDoorM1
import Derived.Lib.SmallJoins
import Derived.Deep.Fields
import Derived.Deep.Slices
import Derived.ChangeSame
import Derived.ChangeSlices
import Derived.Below
import Derived.Carry
namespace Go.E
open Go.Joins Go.ChangeShapes Go.WideShapes Go.RowKit Go.Deep
section
variable {H : Type} {enc : TypeId × Value → H} {P : Program} {w : World} {base : Nat} {spare : Nat → Bool} {held : Bool}
end
/-- What a slice of numbers of 64 bits that came in tells: its elements as naturals, its cells readable. -/
theorem nat_of_wf {z : Int} (h : (Lit.int .u64 z).wf = true) : 0 ≤ z ∧ z ≤ 18446744073709551615 := by
  have := h
  simp [Lit.wf, IntKind.min, IntKind.max, IntKind.signed, IntKind.bits] at this
  constructor <;> omega
theorem int_of_wf {z : Int} (h : (Lit.int .i64 z).wf = true) : -9223372036854775808 ≤ z ∧ z ≤ 9223372036854775807 := by
  have := h
  simp [Lit.wf, IntKind.min, IntKind.max, IntKind.signed, IntKind.bits] at this
  constructor <;> omega
theorem cell_lt {w : World} {a : Addr} {v : Value} (h : w.cell? a = some v) : a.block < w.heap.size := by
  refine Decidable.byContradiction fun hn => ?_
  have hg : w.heap[a.block]? = none := Array.getElem?_eq_none (by omega)
  simp [World.cell?, hg] at h
theorem St.below {w w' : World} (h : St w [] [] w') : Below w.heap.size w w' := ⟨h.os, h.tape, h.output, h.size, fun k hk => h.block k hk (fun hn => by cases hn)⟩
end Go.E
