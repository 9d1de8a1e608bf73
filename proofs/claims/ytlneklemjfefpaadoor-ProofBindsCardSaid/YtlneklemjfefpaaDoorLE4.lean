/-
  What came in, read as plain lists: four lists of hashes.
-/
import Derived.Test.YtlneklemjfefpaaDoorLE3
namespace Go.Proofs.YtlneklemjfefpaaDoor
open Go.ChangeShapes Go.WideShapes Go.ChangeAt Go.RowKit Go.E Go.Deep
set_option linter.unusedVariables false
set_option maxRecDepth 100000
section
variable {H : Type} {enc : TypeId × Value → H} {w : World} {base : Nat} {spare : Nat → Bool} {held : Bool}
theorem open_hash4 {v : Value} {d : DataW H} {p : List MemPlace} (h : DataW.Trod enc Tryd.prog w base spare held 105 v d p) :
    ∃ (B : Option Addr) (b : Nat) (ls : List H32) (Z : Option Addr) (e : Nat) (bs : List H32) (B' : Option Addr) (b' : Nat) (ls' : List H32) (Z' : Option Addr) (e' : Nat) (bs' : List H32), v = .agg #[.slice B ls.length b, .slice Z bs.length e, .slice B' ls'.length b', .slice Z' bs'.length e'] ∧ ls.length ≤ b ∧ bs.length ≤ e ∧ ls'.length ≤ b' ∧ bs'.length ≤ e' ∧
      Ro w [] (SlA B (hcs ls)) ∧ Ro w [] (SlA Z (hcs bs)) ∧ Ro w [] (SlA B' (hcs ls')) ∧ Ro w [] (SlA Z' (hcs bs')) := by
  obtain ⟨fuel, hf⟩ := h
  obtain ⟨hl, xs, m, _, hn, hel⟩ := trod_cells Tryd.underlying105 c44 c105 hf
  have h0 := hel 0 _ (List.getElem?_eq_getElem (by omega))
  have h1 := hel 1 _ (List.getElem?_eq_getElem (by omega))
  have h2 := hel 2 _ (List.getElem?_eq_getElem (by omega))
  have h3 := hel 3 _ (List.getElem?_eq_getElem (by omega))
  rw [List.getElem?_eq_getElem (by omega)] at h0 h1 h2 h3
  obtain ⟨B, b, ls, e0, lb, rb⟩ := open_hashes1 h0
  obtain ⟨Z, e, bs, e1, le, re⟩ := open_hashes1 h1
  obtain ⟨B', b', ls', e2, lb', rb'⟩ := open_hashes1 h2
  obtain ⟨Z', e', bs', e3, le', re'⟩ := open_hashes1 h3
  refine ⟨B, b, ls, Z, e, bs, B', b', ls', Z', e', bs', ?_, lb, le, lb', le', rb, re, rb', re'⟩
  refine agg_of_cells (l := [.slice B ls.length b, .slice Z bs.length e, .slice B' ls'.length b', .slice Z' bs'.length e']) ?_ (fun h => by cases h)
  refine List.ext_getElem (by rw [hl]; rfl) fun i h1 h2 => ?_
  match i, h2 with
  | 0, _ => exact e0
  | 1, _ => exact e1
  | 2, _ => exact e2
  | 3, _ => exact e3
end
end Go.Proofs.YtlneklemjfefpaaDoor
