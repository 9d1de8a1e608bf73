/-
  What came in, read as plain lists: acts upon a tree, lists of hashes, lists of indices.
-/
import Derived.Test.YtlneklemjfefpaaDoorLC
import Derived.Test.YtlneklemjfefpaaDoorTM
import Derived.Deep.Strs
namespace Go.Proofs.YtlneklemjfefpaaDoor
open Go.ChangeShapes Go.WideShapes Go.ChangeAt Go.RowKit Go.E Go.Deep
set_option linter.unusedVariables false
set_option maxRecDepth 100000
theorem c4 : Tryd.prog.cellsOf 4 = 1 := by kernel_rfl
theorem c24 : Tryd.prog.cellsOf 24 = 1 := by kernel_rfl
theorem c40 : Tryd.prog.cellsOf 40 = 34 := by kernel_rfl
section
variable {H : Type} {enc : TypeId × Value → H} {w : World} {base : Nat} {spare : Nat → Bool} {held : Bool}
/-- A slice of flat elements, an argument. -/
theorem open_flatArg {α : Type} {r : Reach} {b0 : Nat} {t e : TypeId} {v : Value} {d : DataW H} {p : List MemPlace} (encL : α → List Value) {sz : Nat} (ht : Tryd.prog.underlying t = some (.slice e)) (hsz : Tryd.prog.cellsOf e = sz) (hpos : 0 < sz) (hlen : ∀ a, (encL a).length = sz)
    (hel : ∀ n cs y, DataW.trod enc Tryd.prog w base spare held n e cs = some y → ∃ x, cs = encL x) (hval : Value.okWide Tryd.prog w r b0 t v) (h : DataW.Trod enc Tryd.prog w base spare held t v d p) :
    ∃ (A : Option Addr) (c : Nat) (xs : List α), v = .slice A xs.length c ∧ xs.length ≤ c ∧ c ≤ maxLen ∧ Ro w [] (SlA A (xs.flatMap encL)) := by
  obtain ⟨fuel, hf⟩ := h
  obtain ⟨a, l, c, rfl⟩ := okWide_slice ht hval
  exact open_flat encL ht hsz hpos hlen hel (show DataW.trod enc Tryd.prog w base spare held fuel t [.slice a l c] = some (d, p) from hf)
theorem three_cut {cs : List Value} (hl : cs.length = 34) : cs = (cs.drop 0).take 1 ++ ((cs.drop 1).take 32 ++ (cs.drop 33).take 1) := by
  rw [List.drop_zero]
  have h1 : (cs.drop 33).take 1 = cs.drop 33 := List.take_of_length_le (by rw [List.length_drop]; omega)
  have h2 : (cs.drop 1).take 32 ++ cs.drop 33 = cs.drop 1 := by
    have := List.take_append_drop 32 (cs.drop 1)
    rwa [List.drop_drop] at this
  rw [h1, h2, List.take_append_drop]
theorem trod_act {fuel : Nat} {cs : List Value} {x : DataW H × List MemPlace} (h : DataW.trod enc Tryd.prog w base spare held fuel 40 cs = some x) : ∃ a : Go.E.Act, cs = actL a := by
  obtain ⟨y0, y1, y2, n, _, hl, h0, h1, h2⟩ := trod_struct3 Tryd.underlying40 h
  rw [c40] at hl
  have h0' : DataW.trod enc Tryd.prog w base spare held n 24 ((cs.drop 0).take 1) = some y0 := by rw [← c24]; exact h0
  have h1' : DataW.trod enc Tryd.prog w base spare held n 23 ((cs.drop 1).take 32) = some y1 := by rw [← c23]; exact h1
  have h2' : DataW.trod enc Tryd.prog w base spare held n 4 ((cs.drop 33).take 1) = some y2 := by rw [← c4]; exact h2
  obtain ⟨z, e0, _, wz⟩ := DataW.trod_int Tryd.underlying24 h0'
  obtain ⟨hh, e1⟩ := trod_hash Tryd.underlying23 Tryd.underlying5 c5 c23 h1'
  obtain ⟨b, e2, _⟩ := DataW.trod_bool Tryd.underlying4 h2'
  have hz := nat_of_wf wz
  refine ⟨⟨z.toNat, hh, b, by omega⟩, ?_⟩
  rw [three_cut hl, e0, e1, e2, actL, Int.toNat_of_nonneg hz.1]
  rfl
theorem open_acts {r : Reach} {b0 : Nat} {v : Value} {d : DataW H} {p : List MemPlace} (hval : Value.okWide Tryd.prog w r b0 34 v) (h : DataW.Trod enc Tryd.prog w base spare held 34 v d p) :
    ∃ (A : Option Addr) (c : Nat) (xs : List Go.E.Act), v = .slice A xs.length c ∧ xs.length ≤ c ∧ c ≤ maxLen ∧ Ro w [] (SlA A (xs.flatMap actL)) :=
  open_flatArg actL Tryd.underlying34 c40 (by decide) actL_length (fun n cs y => trod_act) hval h
theorem open_act {r : Reach} {b0 : Nat} {v : Value} {d : DataW H} {p : List MemPlace} (hval : Value.okWide Tryd.prog w r b0 40 v) (h : DataW.Trod enc Tryd.prog w base spare held 40 v d p) :
    ∃ a : Go.E.Act, v = .agg (actL a).toArray := by
  obtain ⟨fuel, hf⟩ := h
  obtain ⟨cs, rfl, _⟩ := okWide_struct Tryd.underlying40 hval
  obtain ⟨a, ha⟩ := trod_act (show DataW.trod enc Tryd.prog w base spare held fuel 40 cs.toList = some (d, p) from hf)
  exact ⟨a, by rw [← ha]⟩
end
end Go.Proofs.YtlneklemjfefpaaDoor
