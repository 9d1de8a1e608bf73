/-
  What came in, read as plain lists: three lists of hashes.
-/
import Derived.Test.YtlneklemjfefpaaDoorLE3
namespace Go.Proofs.YtlneklemjfefpaaDoor
open Go.ChangeShapes Go.WideShapes Go.ChangeAt Go.RowKit Go.E Go.Deep
set_option linter.unusedVariables false
set_option maxRecDepth 100000
theorem c119 : Tryd.prog.cellsOf 119 = 3 := by kernel_rfl
section
variable {H : Type} {enc : TypeId × Value → H} {w : World} {base : Nat} {spare : Nat → Bool} {held : Bool}
theorem open_hash3 {v : Value} {d : DataW H} {p : List MemPlace} (h : DataW.Trod enc Tryd.prog w base spare held 119 v d p) :
    ∃ (A : Option Addr) (c : Nat) (ls : List H32) (B : Option Addr) (b : Nat) (left : List H32) (Z : Option Addr) (e : Nat) (right : List H32), v = .agg #[.slice A ls.length c, .slice B left.length b, .slice Z right.length e] ∧ left.length ≤ b ∧ right.length ≤ e ∧ Ro w [] (SlA A (hcs ls)) ∧ Ro w [] (SlA B (hcs left)) ∧ Ro w [] (SlA Z (hcs right)) := by
  obtain ⟨fuel, hf⟩ := h
  obtain ⟨hl, xs, m, _, hn, hel⟩ := trod_cells Tryd.underlying119 c44 c119 hf
  have h0 := hel 0 _ (List.getElem?_eq_getElem (by omega))
  have h1 := hel 1 _ (List.getElem?_eq_getElem (by omega))
  have h2 := hel 2 _ (List.getElem?_eq_getElem (by omega))
  rw [List.getElem?_eq_getElem (by omega)] at h0 h1 h2
  obtain ⟨A, c, ls, e0, la, ra⟩ := open_hashes1 h0
  obtain ⟨B, b, left, e1, lb, rb⟩ := open_hashes1 h1
  obtain ⟨Z, e, right, e2, le, re⟩ := open_hashes1 h2
  refine ⟨A, c, ls, B, b, left, Z, e, right, ?_, lb, le, ra, rb, re⟩
  refine agg_of_cells (l := [.slice A ls.length c, .slice B left.length b, .slice Z right.length e]) ?_ (fun h => by cases h)
  refine List.ext_getElem (by rw [hl]; rfl) fun i h1 h2 => ?_
  match i, h2 with
  | 0, _ => exact e0
  | 1, _ => exact e1
  | 2, _ => exact e2
end
end Go.Proofs.YtlneklemjfefpaaDoor
