/-
  What came in, read as plain lists: lists of hashes by twos and fours, a writing step.
-/
import Derived.Test.YtlneklemjfefpaaDoorLE2
namespace Go.Proofs.YtlneklemjfefpaaDoor
open Go.ChangeShapes Go.WideShapes Go.ChangeAt Go.RowKit Go.E Go.Deep
set_option linter.unusedVariables false
set_option maxRecDepth 100000
theorem c89 : Tryd.prog.cellsOf 89 = 2 := by kernel_rfl
theorem c88 : Tryd.prog.cellsOf 88 = 3 := by kernel_rfl
theorem c71 : Tryd.prog.cellsOf 71 = 1 := by kernel_rfl
theorem c105 : Tryd.prog.cellsOf 105 = 4 := by kernel_rfl
section
variable {H : Type} {enc : TypeId × Value → H} {w : World} {base : Nat} {spare : Nat → Bool} {held : Bool}
theorem open_hashes1 {n : Nat} {v : Value} {x : DataW H × List MemPlace} (h : DataW.trod enc Tryd.prog w base spare held n 44 [v] = some x) :
    ∃ (A : Option Addr) (c : Nat) (xs : List H32), v = .slice A xs.length c ∧ xs.length ≤ c ∧ Ro w [] (SlA A (hcs xs)) := by
  obtain ⟨d, p⟩ := x
  obtain ⟨A, c, ps, rfl, h2, _, h4⟩ := open_flat hvl Tryd.underlying44 c23 (by decide) hvl_length (fun n cs y => trod_hash1) h
  exact ⟨A, c, ps, rfl, h2, h4⟩
theorem open_hash2 {v : Value} {d : DataW H} {p : List MemPlace} (h : DataW.Trod enc Tryd.prog w base spare held 89 v d p) :
    ∃ (B : Option Addr) (b : Nat) (ls : List H32) (Z : Option Addr) (e : Nat) (bs : List H32), v = .agg #[.slice B ls.length b, .slice Z bs.length e] ∧ ls.length ≤ b ∧ bs.length ≤ e ∧ Ro w [] (SlA B (hcs ls)) ∧ Ro w [] (SlA Z (hcs bs)) := by
  obtain ⟨fuel, hf⟩ := h
  obtain ⟨hl, xs, m, _, hn, hel⟩ := trod_cells Tryd.underlying89 c44 c89 hf
  have hu0 : v.cells.toList[0]? = some (v.cells.toList[0]'(by omega)) := List.getElem?_eq_getElem (by omega)
  have hu1 : v.cells.toList[1]? = some (v.cells.toList[1]'(by omega)) := List.getElem?_eq_getElem (by omega)
  have h0 := hel 0 _ hu0
  have h1 := hel 1 _ hu1
  rw [List.getElem?_eq_getElem (by omega)] at h0 h1
  obtain ⟨B, b, ls, e0, lb, rb⟩ := open_hashes1 h0
  obtain ⟨Z, e, bs, e1, le, re⟩ := open_hashes1 h1
  refine ⟨B, b, ls, Z, e, bs, ?_, lb, le, rb, re⟩
  refine agg_of_cells (l := [.slice B ls.length b, .slice Z bs.length e]) ?_ (fun h => by cases h)
  refine List.ext_getElem (by rw [hl]; rfl) fun i h1 h2 => ?_
  match i, h2 with
  | 0, _ => exact e0
  | 1, _ => exact e1
theorem open_wides1 {n : Nat} {v : Value} {x : DataW H × List MemPlace} (h : DataW.trod enc Tryd.prog w base spare held n 71 [v] = some x) :
    ∃ (A : Option Addr) (c : Nat) (xs : List Nat), v = .slice A xs.length c ∧ xs.length ≤ c ∧ (∀ x ∈ xs, x < 18446744073709551616) ∧ Ro w [] (SlA A (u64s xs)) := by
  obtain ⟨d, p⟩ := x
  obtain ⟨A, c, l, rfl, h1, h2, h3⟩ := open_flat u64F Tryd.underlying71 c24 (by decide) (fun _ => rfl) (fun n cs y => trod_u64) h
  refine ⟨A, c, l.map Fin.val, by rw [List.length_map], by rw [List.length_map]; exact h1, fun x hx => ?_, by rw [← u64F_flat]; exact h3⟩
  obtain ⟨a, _, rfl⟩ := List.mem_map.1 hx
  exact a.isLt
theorem three_of {cs : List Value} (hl : cs.length = 3) : ∃ a b c, cs = [a, b, c] := by
  match cs, hl with
  | [a, b, c], _ => exact ⟨a, b, c, rfl⟩
theorem open_write {r : Reach} {b0 : Nat} {v : Value} {d : DataW H} {p : List MemPlace} (hval : Value.okWide Tryd.prog w r b0 88 v) (h : DataW.Trod enc Tryd.prog w base spare held 88 v d p) :
    ∃ (A : Option Addr) (c : Nat) (xs : List Nat) (B : Option Addr) (b : Nat) (ls : List H32) (Z : Option Addr) (e : Nat) (bs : List H32), v = .agg #[.slice A xs.length c, .slice B ls.length b, .slice Z bs.length e] ∧ xs.length ≤ c ∧ ls.length ≤ b ∧ bs.length ≤ e ∧ (∀ x ∈ xs, x < 18446744073709551616) ∧
      Ro w [] (SlA A (u64s xs)) ∧ Ro w [] (SlA B (hcs ls)) ∧ Ro w [] (SlA Z (hcs bs)) := by
  obtain ⟨fuel, hf⟩ := h
  obtain ⟨cs, rfl, _⟩ := okWide_struct Tryd.underlying88 hval
  obtain ⟨y0, y1, y2, n, _, hl, h0, h1, h2⟩ := trod_struct3 Tryd.underlying88 (show DataW.trod enc Tryd.prog w base spare held fuel 88 cs.toList = some (d, p) from hf)
  rw [c88] at hl
  obtain ⟨u0, u1, u2, hu⟩ := three_of hl
  rw [hu] at h0 h1 h2
  have h0' : DataW.trod enc Tryd.prog w base spare held n 71 [u0] = some y0 := by rw [c71] at h0; exact h0
  have h1' : DataW.trod enc Tryd.prog w base spare held n 44 [u1] = some y1 := by rw [c44] at h1; exact h1
  have h2' : DataW.trod enc Tryd.prog w base spare held n 44 [u2] = some y2 := by rw [c44] at h2; exact h2
  obtain ⟨A, c, xs, rfl, la, low, ra⟩ := open_wides1 h0'
  obtain ⟨B, b, ls, rfl, lb, rb⟩ := open_hashes1 h1'
  obtain ⟨Z, e, bs, rfl, le, re⟩ := open_hashes1 h2'
  refine ⟨A, c, xs, B, b, ls, Z, e, bs, ?_, la, lb, le, low, ra, rb, re⟩
  have e2 : cs = #[.slice A xs.length c, .slice B ls.length b, .slice Z bs.length e] := by rw [← Array.toArray_toList (xs := cs), hu]
  rw [e2]
end
end Go.Proofs.YtlneklemjfefpaaDoor
