/-
  What came in, read as plain lists: a first index and how many there are.
-/
import Derived.Test.YtlneklemjfefpaaDoorLD
namespace Go.Proofs.YtlneklemjfefpaaDoor
open Go.ChangeShapes Go.WideShapes Go.ChangeAt Go.RowKit Go.E Go.Deep
set_option linter.unusedVariables false
set_option maxRecDepth 100000
theorem c75 : Tryd.prog.cellsOf 75 = 2 := by kernel_rfl
theorem c3 : Tryd.prog.cellsOf 3 = 1 := by kernel_rfl
section
variable {H : Type} {enc : TypeId × Value → H} {w : World} {base : Nat} {spare : Nat → Bool} {held : Bool}
theorem open_span {r : Reach} {b0 : Nat} {v : Value} {d : DataW H} {p : List MemPlace} (hval : Value.okWide Tryd.prog w r b0 75 v) (h : DataW.Trod enc Tryd.prog w base spare held 75 v d p) :
    ∃ (f : Nat) (m : Int), v = .agg #[.int .u64 (f : Int), .int .i64 m] ∧ f < 18446744073709551616 := by
  obtain ⟨fuel, hf⟩ := h
  obtain ⟨cs, rfl, _⟩ := okWide_struct Tryd.underlying75 hval
  obtain ⟨y0, y1, n, _, hl, h0, h1⟩ := trod_struct2 Tryd.underlying75 (show DataW.trod enc Tryd.prog w base spare held fuel 75 cs.toList = some (d, p) from hf)
  rw [c75] at hl
  have h0' : DataW.trod enc Tryd.prog w base spare held n 24 ((cs.toList.drop 0).take 1) = some y0 := by rw [← c24]; exact h0
  have h1' : DataW.trod enc Tryd.prog w base spare held n 3 ((cs.toList.drop 1).take 1) = some y1 := by rw [← c3]; exact h1
  obtain ⟨z, e0, _, wz⟩ := DataW.trod_int Tryd.underlying24 h0'
  obtain ⟨m, e1, _, _⟩ := DataW.trod_int Tryd.underlying3 h1'
  have hz := nat_of_wf wz
  refine ⟨z.toNat, m, ?_, by omega⟩
  rw [Int.toNat_of_nonneg hz.1]
  have e := two_cut (k := 1) hl
  rw [e0, e1] at e
  show _ = Value.agg ([.int .u64 z] ++ [.int .i64 m] : List Value).toArray
  rw [← e]
def u64F (a : Fin 18446744073709551616) : List Value := [.int .u64 ((a.val : Nat) : Int)]
theorem u64F_flat (l : List (Fin 18446744073709551616)) : l.flatMap u64F = u64s (l.map Fin.val) := by
  induction l with
  | nil => rfl
  | cons a l ih => rw [List.flatMap_cons, ih]; rfl
theorem trod_u64 {n : Nat} {cs : List Value} {y : DataW H × List MemPlace} (h : DataW.trod enc Tryd.prog w base spare held n 24 cs = some y) : ∃ x, cs = u64F x := by
  obtain ⟨z, e0, _, wz⟩ := DataW.trod_int Tryd.underlying24 h
  have hz := nat_of_wf wz
  exact ⟨⟨z.toNat, by omega⟩, by rw [e0, u64F, Int.toNat_of_nonneg hz.1]⟩
theorem open_wides {r : Reach} {b0 : Nat} {v : Value} {d : DataW H} {p : List MemPlace} (hval : Value.okWide Tryd.prog w r b0 71 v) (h : DataW.Trod enc Tryd.prog w base spare held 71 v d p) :
    ∃ (A : Option Addr) (c : Nat) (xs : List Nat), v = .slice A xs.length c ∧ xs.length ≤ c ∧ c ≤ maxLen ∧ (∀ x ∈ xs, x < 18446744073709551616) ∧ Ro w [] (SlA A (u64s xs)) := by
  obtain ⟨A, c, l, rfl, h1, h2, h3⟩ := open_flatArg u64F Tryd.underlying71 c24 (by decide) (fun _ => rfl) (fun n cs y => trod_u64) hval h
  refine ⟨A, c, l.map Fin.val, by rw [List.length_map], by rw [List.length_map]; exact h1, h2, fun x hx => ?_, by rw [← u64F_flat]; exact h3⟩
  obtain ⟨a, _, rfl⟩ := List.mem_map.1 hx
  exact a.isLt
end
end Go.Proofs.YtlneklemjfefpaaDoor
