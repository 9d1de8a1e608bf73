/-
  What came in, read as plain lists: acts upon a tree, lists of hashes, lists of indices.
-/
import Derived.Test.YtlneklemjfefpaaDoorLC
import Derived.Test.YtlneklemjfefpaaDoorTO
import Derived.Deep.Strs
namespace Go.Proofs.YtlneklemjfefpaaDoor
open Go.ChangeShapes Go.WideShapes Go.ChangeAt Go.RowKit Go.E Go.Deep
set_option linter.unusedVariables false
set_option maxRecDepth 100000
theorem c4 : Tryd.prog.cellsOf 4 = 1 := by kernel_rfl
theorem c24 : Tryd.prog.cellsOf 24 = 1 := by kernel_rfl
theorem c44 : Tryd.prog.cellsOf 44 = 1 := by kernel_rfl
theorem c64 : Tryd.prog.cellsOf 64 = 33 := by kernel_rfl
theorem c65 : Tryd.prog.cellsOf 65 = 2 := by kernel_rfl
theorem c40 : Tryd.prog.cellsOf 40 = 34 := by kernel_rfl
section
variable {H : Type} {enc : TypeId × Value → H} {w : World} {base : Nat} {spare : Nat → Bool} {held : Bool}
/-- A slice of flat elements, an argument. -/
theorem open_flatArg {α : Type} {r : Reach} {b0 : Nat} {t e : TypeId} {v : Value} {d : DataW H} {p : List MemPlace} (encL : α → List Value) {sz : Nat} (ht : Tryd.prog.underlying t = some (.slice e)) (hsz : Tryd.prog.cellsOf e = sz) (hpos : 0 < sz) (hlen : ∀ a, (encL a).length = sz)
    (hel : ∀ n cs y, DataW.trod enc Tryd.prog w base spare held n e cs = some y → ∃ x, cs = encL x) (hval : Value.okWide Tryd.prog w r b0 t v) (h : DataW.Trod enc Tryd.prog w base spare held t v d p) :
    ∃ (A : Option Addr) (c : Nat) (xs : List α), v = .slice A xs.length c ∧ xs.length ≤ c ∧ c ≤ maxLen ∧ Ro w [] (SlA A (xs.flatMap encL)) := by
  obtain ⟨fuel, hf⟩ := h
  obtain ⟨a, l, c, rfl⟩ := okWide_slice ht hval
  exact open_flat encL ht hsz hpos hlen hel (show DataW.trod enc Tryd.prog w base spare held fuel t [.slice a l c] = some (d, p) from hf)
theorem three_cut {cs : List Value} (hl : cs.length = 34) : cs = (cs.drop 0).take 1 ++ ((cs.drop 1).take 32 ++ (cs.drop 33).take 1) := by
  rw [List.drop_zero]
  have h1 : (cs.drop 33).take 1 = cs.drop 33 := List.take_of_length_le (by rw [List.length_drop]; omega)
  have h2 : (cs.drop 1).take 32 ++ cs.drop 33 = cs.drop 1 := by
    have := List.take_append_drop 32 (cs.drop 1)
    rwa [List.drop_drop] at this
  rw [h1, h2, List.take_append_drop]
theorem trod_act {fuel : Nat} {cs : List Value} {x : DataW H × List MemPlace} (h : DataW.trod enc Tryd.prog w base spare held fuel 40 cs = some x) : ∃ a : Go.E.Act, cs = actL a := by
  obtain ⟨y0, y1, y2, n, _, hl, h0, h1, h2⟩ := trod_struct3 Tryd.underlying40 h
  rw [c40] at hl
  have h0' : DataW.trod enc Tryd.prog w base spare held n 24 ((cs.drop 0).take 1) = some y0 := by rw [← c24]; exact h0
  have h1' : DataW.trod enc Tryd.prog w base spare held n 23 ((cs.drop 1).take 32) = some y1 := by rw [← c23]; exact h1
  have h2' : DataW.trod enc Tryd.prog w base spare held n 4 ((cs.drop 33).take 1) = some y2 := by rw [← c4]; exact h2
  obtain ⟨z, e0, _, wz⟩ := DataW.trod_int Tryd.underlying24 h0'
  obtain ⟨hh, e1⟩ := trod_hash Tryd.underlying23 Tryd.underlying5 c5 c23 h1'
  obtain ⟨b, e2, _⟩ := DataW.trod_bool Tryd.underlying4 h2'
  have hz := nat_of_wf wz
  refine ⟨⟨z.toNat, hh, b, by omega⟩, ?_⟩
  rw [three_cut hl, e0, e1, e2, actL, Int.toNat_of_nonneg hz.1]
  rfl
theorem open_acts {r : Reach} {b0 : Nat} {v : Value} {d : DataW H} {p : List MemPlace} (hval : Value.okWide Tryd.prog w r b0 34 v) (h : DataW.Trod enc Tryd.prog w base spare held 34 v d p) :
    ∃ (A : Option Addr) (c : Nat) (xs : List Go.E.Act), v = .slice A xs.length c ∧ xs.length ≤ c ∧ c ≤ maxLen ∧ Ro w [] (SlA A (xs.flatMap actL)) :=
  open_flatArg actL Tryd.underlying34 c40 (by decide) actL_length (fun n cs y => trod_act) hval h
theorem open_act {r : Reach} {b0 : Nat} {v : Value} {d : DataW H} {p : List MemPlace} (hval : Value.okWide Tryd.prog w r b0 40 v) (h : DataW.Trod enc Tryd.prog w base spare held 40 v d p) :
    ∃ a : Go.E.Act, v = .agg (actL a).toArray := by
  obtain ⟨fuel, hf⟩ := h
  obtain ⟨cs, rfl, _⟩ := okWide_struct Tryd.underlying40 hval
  obtain ⟨a, ha⟩ := trod_act (show DataW.trod enc Tryd.prog w base spare held fuel 40 cs.toList = some (d, p) from hf)
  exact ⟨a, by rw [← ha]⟩
theorem trod_hash1 {n : Nat} {cs : List Value} {y : DataW H × List MemPlace} (h : DataW.trod enc Tryd.prog w base spare held n 23 cs = some y) : ∃ x : H32, cs = hvl x := trod_hash Tryd.underlying23 Tryd.underlying5 c5 c23 h
theorem open_hashes {r : Reach} {b0 : Nat} {v : Value} {d : DataW H} {p : List MemPlace} (hval : Value.okWide Tryd.prog w r b0 44 v) (h : DataW.Trod enc Tryd.prog w base spare held 44 v d p) :
    ∃ (A : Option Addr) (c : Nat) (xs : List H32), v = .slice A xs.length c ∧ xs.length ≤ c ∧ c ≤ maxLen ∧ Ro w [] (SlA A (hcs xs)) :=
  open_flatArg hvl Tryd.underlying44 c23 (by decide) hvl_length (fun n cs y => trod_hash1) hval h
theorem two_cut {cs : List Value} {k : Nat} (hl : cs.length = k + 1) : cs = (cs.drop 0).take k ++ (cs.drop k).take 1 := by
  rw [List.drop_zero, List.take_of_length_le (by rw [List.length_drop]; omega : (cs.drop k).length ≤ 1), List.take_append_drop]
theorem one_of {cs : List Value} {k : Nat} (hl : cs.length = k + 1) : ∃ v, (cs.drop k).take 1 = [v] := by
  refine List.length_eq_one_iff.1 ?_
  rw [List.length_take, List.length_drop]; omega
/-- A leaf and its path. -/
theorem open_cut {r : Reach} {b0 : Nat} {v : Value} {d : DataW H} {p : List MemPlace} (hval : Value.okWide Tryd.prog w r b0 64 v) (h : DataW.Trod enc Tryd.prog w base spare held 64 v d p) :
    ∃ (x : H32) (A : Option Addr) (c : Nat) (ps : List H32), v = .agg (hvl x ++ [Value.slice A ps.length c]).toArray ∧ ps.length ≤ c ∧ c ≤ maxLen ∧ Ro w [] (SlA A (hcs ps)) := by
  obtain ⟨fuel, hf⟩ := h
  obtain ⟨cs, rfl, _⟩ := okWide_struct Tryd.underlying64 hval
  obtain ⟨y0, y1, n, _, hl, h0, h1⟩ := trod_struct2 Tryd.underlying64 (show DataW.trod enc Tryd.prog w base spare held fuel 64 cs.toList = some (d, p) from hf)
  rw [c64] at hl
  have h0' : DataW.trod enc Tryd.prog w base spare held n 23 ((cs.toList.drop 0).take 32) = some y0 := by rw [← c23]; exact h0
  have h1' : DataW.trod enc Tryd.prog w base spare held n 44 ((cs.toList.drop 32).take 1) = some y1 := by rw [← c44]; exact h1
  obtain ⟨x, e0⟩ := trod_hash1 h0'
  obtain ⟨v, e1⟩ := one_of (k := 32) hl
  rw [e1] at h1'
  obtain ⟨A, c, ps, rfl, h2, h3, h4⟩ := open_flat hvl Tryd.underlying44 c23 (by decide) hvl_length (fun n cs y => trod_hash1) h1'
  refine ⟨x, A, c, ps, ?_, h2, h3, h4⟩
  have e := two_cut (k := 32) hl
  rw [e0, e1] at e
  rw [← e]
theorem open_two {r : Reach} {b0 : Nat} {v : Value} {d : DataW H} {p : List MemPlace} (h : DataW.Trod enc Tryd.prog w base spare held 65 v d p) :
    ∃ a b : Nat, v = .agg #[.int .u64 (a : Int), .int .u64 (b : Int)] ∧ a < 18446744073709551616 ∧ b < 18446744073709551616 := by
  obtain ⟨fuel, hf⟩ := h
  obtain ⟨hl, xs, m, _, hn, hel⟩ := trod_cells Tryd.underlying65 c24 c65 hf
  have hu0 : v.cells.toList[0]? = some (v.cells.toList[0]'(by omega)) := List.getElem?_eq_getElem (by omega)
  have hu1 : v.cells.toList[1]? = some (v.cells.toList[1]'(by omega)) := List.getElem?_eq_getElem (by omega)
  have h0 := hel 0 _ hu0
  have h1 := hel 1 _ hu1
  rw [List.getElem?_eq_getElem (by omega)] at h0 h1
  obtain ⟨z0, e0, _, w0⟩ := DataW.trod_int Tryd.underlying24 h0
  obtain ⟨z1, e1, _, w1⟩ := DataW.trod_int Tryd.underlying24 h1
  have b0 := nat_of_wf w0
  have b1 := nat_of_wf w1
  refine ⟨z0.toNat, z1.toNat, ?_, by omega, by omega⟩
  rw [Int.toNat_of_nonneg b0.1, Int.toNat_of_nonneg b1.1]
  refine agg_of_cells (l := [.int .u64 z0, .int .u64 z1]) ?_ (fun h => by cases h)
  have e0' : v.cells.toList[0]'(by omega) = .int .u64 z0 := by simpa using e0
  have e1' : v.cells.toList[1]'(by omega) = .int .u64 z1 := by simpa using e1
  refine List.ext_getElem (by rw [hl]; rfl) fun i h1 h2 => ?_
  match i, h2 with
  | 0, _ => exact e0'
  | 1, _ => exact e1'
end
end Go.Proofs.YtlneklemjfefpaaDoor
