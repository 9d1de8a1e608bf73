/-
  Arguments opened: what a reading says of the cells. Structs of five fields by value; slices of numbers.
-/
import Derived.Test.YtgdjcmehlhebdaaGreatDoorM1
import Derived.Lib.SmallJoins
import Derived.Deep.Fields
import Derived.Deep.Slices
import Derived.ChangeSame
import Derived.ChangeSlices
import Derived.Below
import Derived.Carry
namespace Go.E
open Go.Joins Go.ChangeShapes Go.WideShapes Go.RowKit Go.Deep
section
variable {H : Type} {enc : TypeId × Value → H} {P : Program} {w : World} {base : Nat} {spare : Nat → Bool} {held : Bool}
theorem open_agg5 {r : Reach} {b0 : Nat} {t : TypeId} {f0 f1 f2 f3 f4 : Field} {v : Value} {d : DataW H} {p : List MemPlace} (hs : P.underlying t = some (.struct #[f0, f1, f2, f3, f4])) (hone : oneCellFields P #[f0, f1, f2, f3, f4] = true) (hC : P.cellsOf t = 5)
    (hv : Value.okWide P w r b0 t v) (h : DataW.Trod enc P w base spare held t v d p) :
    ∃ (v0 v1 v2 v3 v4 : Value) (y0 y1 y2 y3 y4 : DataW H × List MemPlace) (n : Nat), v = .agg #[v0, v1, v2, v3, v4] ∧ d = .agg [y0.1, y1.1, y2.1, y3.1, y4.1] ∧ p = y0.2 ++ (y1.2 ++ (y2.2 ++ (y3.2 ++ y4.2))) ∧
      DataW.trod enc P w base spare held n f0.type [v0] = some y0 ∧ DataW.trod enc P w base spare held n f1.type [v1] = some y1 ∧ DataW.trod enc P w base spare held n f2.type [v2] = some y2 ∧ DataW.trod enc P w base spare held n f3.type [v3] = some y3 ∧ DataW.trod enc P w base spare held n f4.type [v4] = some y4 := by
  obtain ⟨cs, rfl, hsz⟩ := okWide_struct hs hv
  obtain ⟨l⟩ := cs
  match l, hsz.trans hC with
  | [c0, c1, c2, c3, c4], _ =>
    obtain ⟨fuel, hf⟩ := h
    obtain ⟨xs, n, _, hx, _, hlen, hg⟩ := DataW.trod_struct hs hf
    obtain ⟨o0, k0⟩ := hone_of hone 0 f0 rfl
    obtain ⟨o1, k1⟩ := hone_of hone 1 f1 rfl
    obtain ⟨o2, k2⟩ := hone_of hone 2 f2 rfl
    obtain ⟨o3, k3⟩ := hone_of hone 3 f3 rfl
    obtain ⟨o4, k4⟩ := hone_of hone 4 f4 rfl
    match xs, hlen with
    | [y0, y1, y2, y3, y4], _ =>
      simp only [Prod.mk.injEq] at hx
      exact ⟨c0, c1, c2, c3, c4, y0, y1, y2, y3, y4, n, rfl, by simpa using hx.1, by simpa using hx.2, by simpa [Value.cells, o0, k0] using hg 0 f0 rfl, by simpa [Value.cells, o1, k1] using hg 1 f1 rfl, by simpa [Value.cells, o2, k2] using hg 2 f2 rfl, by simpa [Value.cells, o3, k3] using hg 3 f3 rfl, by simpa [Value.cells, o4, k4] using hg 4 f4 rfl⟩

end
/-- What a slice of numbers of 64 bits that came in tells: its elements as naturals, its cells readable. -/
theorem nat_of_wf {z : Int} (h : (Lit.int .u64 z).wf = true) : 0 ≤ z ∧ z ≤ 18446744073709551615 := by
  have := h
  simp [Lit.wf, IntKind.min, IntKind.max, IntKind.signed, IntKind.bits] at this
  constructor <;> omega
theorem int_of_wf {z : Int} (h : (Lit.int .i64 z).wf = true) : -9223372036854775808 ≤ z ∧ z ≤ 9223372036854775807 := by
  have := h
  simp [Lit.wf, IntKind.min, IntKind.max, IntKind.signed, IntKind.bits] at this
  constructor <;> omega
theorem cell_lt {w : World} {a : Addr} {v : Value} (h : w.cell? a = some v) : a.block < w.heap.size := by
  refine Decidable.byContradiction fun hn => ?_
  have hg : w.heap[a.block]? = none := Array.getElem?_eq_none (by omega)
  simp [World.cell?, hg] at h
theorem u64s_open {w : World} {a : Addr} {len : Nat} {zs : List Int} (hl : len ≤ zs.length) (hcell : ∀ i, i < zs.length → w.cell? (a.add i) = some (.int .u64 (zs.getD i 0))) (hwf : ∀ n ∈ zs, (Lit.int .u64 n).wf = true) (hb : a.block < w.heap.size) :
    ∃ xs : List Nat, xs.length = len ∧ Ro w [] (SlA (some a) (u64s xs)) := by
  refine ⟨(zs.take len).map Int.toNat, by simp; omega, fun j u hj => ⟨a, rfl, ?_⟩, fun b hbm => ⟨?_, fun h => by cases h⟩⟩
  · have hj1 : j < len := by
      have := (List.getElem?_eq_some_iff.1 hj).1
      simp [u64s] at this; omega
    rw [hcell j (by omega)]
    have h2 := nat_of_wf (hwf (zs.getD j 0) (by simp [List.getD, show j < zs.length by omega]))
    simp only [u64s, List.getElem?_map, List.getElem?_take, if_pos hj1] at hj
    rw [List.getElem?_eq_getElem (by omega : j < zs.length)] at hj
    simp only [Option.map_some, Option.some.injEq] at hj
    rw [← hj]
    simp only [List.getD, List.getElem?_eq_getElem (show j < zs.length by omega), Option.getD_some] at h2 ⊢
    rw [Int.toNat_of_nonneg h2.1]
  · rw [SlA_fp] at hbm
    obtain ⟨x, hx, rfl, _⟩ := mem_slfp hbm
    injection hx with hx
    subst hx
    exact hb
theorem u64s_none (w : World) : Ro w [] (SlA none (u64s [])) := ⟨fun j u hj => by simp [u64s] at hj, fun b hb => by rw [SlA_fp] at hb; obtain ⟨x, hx, _⟩ := mem_slfp hb; cases hx⟩
theorem St.below {w w' : World} (h : St w [] [] w') : Below w.heap.size w w' := ⟨h.os, h.tape, h.output, h.size, fun k hk => h.block k hk (fun hn => by cases hn)⟩
end Go.E
