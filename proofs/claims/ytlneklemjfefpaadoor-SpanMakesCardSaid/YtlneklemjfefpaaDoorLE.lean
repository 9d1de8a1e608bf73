/-
  What came in, read as plain lists: a first index and how many there are.
-/
import Derived.Test.YtlneklemjfefpaaDoorLD
namespace Go.Proofs.YtlneklemjfefpaaDoor
open Go.ChangeShapes Go.WideShapes Go.ChangeAt Go.RowKit Go.E Go.Deep
set_option linter.unusedVariables false
set_option maxRecDepth 100000
theorem c75 : Tryd.prog.cellsOf 75 = 2 := by kernel_rfl
theorem c3 : Tryd.prog.cellsOf 3 = 1 := by kernel_rfl
section
variable {H : Type} {enc : TypeId × Value → H} {w : World} {base : Nat} {spare : Nat → Bool} {held : Bool}
theorem open_span {r : Reach} {b0 : Nat} {v : Value} {d : DataW H} {p : List MemPlace} (hval : Value.okWide Tryd.prog w r b0 75 v) (h : DataW.Trod enc Tryd.prog w base spare held 75 v d p) :
    ∃ (f : Nat) (m : Int), v = .agg #[.int .u64 (f : Int), .int .i64 m] ∧ f < 18446744073709551616 := by
  obtain ⟨fuel, hf⟩ := h
  obtain ⟨cs, rfl, _⟩ := okWide_struct Tryd.underlying75 hval
  obtain ⟨y0, y1, n, _, hl, h0, h1⟩ := trod_struct2 Tryd.underlying75 (show DataW.trod enc Tryd.prog w base spare held fuel 75 cs.toList = some (d, p) from hf)
  rw [c75] at hl
  have h0' : DataW.trod enc Tryd.prog w base spare held n 24 ((cs.toList.drop 0).take 1) = some y0 := by rw [← c24]; exact h0
  have h1' : DataW.trod enc Tryd.prog w base spare held n 3 ((cs.toList.drop 1).take 1) = some y1 := by rw [← c3]; exact h1
  obtain ⟨z, e0, _, wz⟩ := DataW.trod_int Tryd.underlying24 h0'
  obtain ⟨m, e1, _, _⟩ := DataW.trod_int Tryd.underlying3 h1'
  have hz := nat_of_wf wz
  refine ⟨z.toNat, m, ?_, by omega⟩
  rw [Int.toNat_of_nonneg hz.1]
  have e := two_cut (k := 1) hl
  rw [e0, e1] at e
  show _ = Value.agg ([.int .u64 z] ++ [.int .i64 m] : List Value).toArray
  rw [← e]
end
end Go.Proofs.YtlneklemjfefpaaDoor
