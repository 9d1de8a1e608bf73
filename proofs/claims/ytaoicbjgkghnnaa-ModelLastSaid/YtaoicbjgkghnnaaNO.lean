/-
  What came in, read as plain lists: acts upon a volume.
-/
import Derived.Test.YtaoicbjgkghnnaaL1
import Derived.Test.YtaoicbjgkghnnaaQ1
import Derived.Test.YtaoicbjgkghnnaaNF
import Derived.Test.YtaoicbjgkghnnaaRows
import Derived.WalkKit
import Derived.ProofKit
import Derived.OpenShut
import Derived.ShutString
import Derived.ChangeOld
import Derived.Stop.Joined
namespace Go.Proofs.Ytaoicbjgkghnnaa
open Go.ChangeShapes Go.WideShapes Go.ChangeAt Go.RowKit Go.E Go.Deep
set_option linter.unusedVariables false
set_option maxRecDepth 100000
theorem own : ownKnob Try.prog.godebug = none := by kernel_rfl
theorem laidOut : laidOutB Try.prog = true := by kernel_rfl
theorem c3 : Try.prog.cellsOf 3 = 1 := by kernel_rfl
theorem c5 : Try.prog.cellsOf 5 = 1 := by kernel_rfl
theorem c22 : Try.prog.cellsOf 22 = 1 := by kernel_rfl
theorem c23 : Try.prog.cellsOf 23 = 1 := by kernel_rfl
theorem c24 : Try.prog.cellsOf 24 = 1 := by kernel_rfl
theorem c26 : Try.prog.cellsOf 26 = 5 := by kernel_rfl
theorem c58 : Try.prog.cellsOf 58 = 32 := by kernel_rfl
section
variable {H : Type} {enc : TypeId × Value → H} {w : World} {base : Nat} {spare : Nat → Bool} {held : Bool}
def u64F (a : Fin 18446744073709551616) : List Value := [.int .u64 ((a.val : Nat) : Int)]
theorem u64F_flat (l : List (Fin 18446744073709551616)) : l.flatMap u64F = u64s (l.map Fin.val) := by
  induction l with
  | nil => rfl
  | cons a l ih => rw [List.flatMap_cons, ih]; rfl
theorem trod_u64 {n : Nat} {cs : List Value} {y : DataW H × List MemPlace} (h : DataW.trod enc Try.prog w base spare held n 24 cs = some y) : ∃ x, cs = u64F x := by
  obtain ⟨z, e0, _, wz⟩ := DataW.trod_int Try.underlying24 h
  have hz := nat_of_wf wz
  exact ⟨⟨z.toNat, by omega⟩, by rw [e0, u64F, Int.toNat_of_nonneg hz.1]⟩
theorem open_idx {n : Nat} {v : Value} {x : DataW H × List MemPlace} (h : DataW.trod enc Try.prog w base spare held n 22 [v] = some x) :
    ∃ (A : Option Addr) (c : Nat) (xs : List Nat), v = .slice A xs.length c ∧ xs.length ≤ c ∧ c ≤ maxLen ∧ Ro w [] (SlA A (u64s xs)) := by
  obtain ⟨d, p⟩ := x
  obtain ⟨A, c, l, rfl, h1, h2, h3⟩ := open_flat u64F Try.underlying22 c24 (by decide) (fun _ => rfl) (fun n cs y => trod_u64) h
  exact ⟨A, c, l.map Fin.val, by rw [List.length_map], by rw [List.length_map]; exact h1, h2, by rw [← u64F_flat]; exact h3⟩
theorem open_blk {n : Nat} {v : Value} {x : DataW H × List MemPlace} (h : DataW.trod enc Try.prog w base spare held n 23 [v] = some x) :
    ∃ (A : Option Addr) (c : Nat) (xs : List H32), v = .slice A xs.length c ∧ Ro w [] (SlA A (hcs xs)) := by
  obtain ⟨d, p⟩ := x
  obtain ⟨A, c, ps, rfl, _, _, h4⟩ := open_flat hvl Try.underlying23 c58 (by decide) hvl_length (fun n cs y => trod_hash Try.underlying58 Try.underlying5 c5 c58) h
  exact ⟨A, c, ps, rfl, h4⟩
theorem open_act {n : Nat} {cs : List Value} {y : DataW H × List MemPlace} (h : DataW.trod enc Try.prog w base spare held n 26 cs = some y) : ∃ a : {a : ActL // a.Ok w}, cs = acell a.1.flat := by
  obtain ⟨xs, m, _, _, hl, hn, hg⟩ := DataW.trod_struct Try.underlying26 h
  rw [c26] at hl
  match cs, hl with
  | [u0, u1, u2, u3, u4], _ =>
    match xs, hn with
    | [y0, y1, y2, y3, y4], _ =>
      have g0 : DataW.trod enc Try.prog w base spare held m 3 (([u0, u1, u2, u3, u4].drop 0).take (Try.prog.cellsOf 3)) = some y0 := hg 0 _ rfl
      have g1 : DataW.trod enc Try.prog w base spare held m 22 (([u0, u1, u2, u3, u4].drop 1).take (Try.prog.cellsOf 22)) = some y1 := hg 1 _ rfl
      have g2 : DataW.trod enc Try.prog w base spare held m 23 (([u0, u1, u2, u3, u4].drop 2).take (Try.prog.cellsOf 23)) = some y2 := hg 2 _ rfl
      have g3 : DataW.trod enc Try.prog w base spare held m 24 (([u0, u1, u2, u3, u4].drop 3).take (Try.prog.cellsOf 24)) = some y3 := hg 3 _ rfl
      have g4 : DataW.trod enc Try.prog w base spare held m 3 (([u0, u1, u2, u3, u4].drop 4).take (Try.prog.cellsOf 3)) = some y4 := hg 4 _ rfl
      rw [c3] at g0 g4
      rw [c22] at g1
      rw [c23] at g2
      rw [c24] at g3
      obtain ⟨k, e0, _, _⟩ := DataW.trod_int Try.underlying3 (show DataW.trod enc Try.prog w base spare held m 3 [u0] = some y0 from g0)
      obtain ⟨A, c, is, rfl, i1, i2, i3⟩ := open_idx (show DataW.trod enc Try.prog w base spare held m 22 [u1] = some y1 from g1)
      obtain ⟨B, d, bs, rfl, j1⟩ := open_blk (show DataW.trod enc Try.prog w base spare held m 23 [u2] = some y2 from g2)
      obtain ⟨z, e3, _, wz⟩ := DataW.trod_int Try.underlying24 (show DataW.trod enc Try.prog w base spare held m 24 [u3] = some y3 from g3)
      obtain ⟨q, e4, _, wq⟩ := DataW.trod_int Try.underlying3 (show DataW.trod enc Try.prog w base spare held m 3 [u4] = some y4 from g4)
      obtain rfl : u0 = .int .i64 k := by simpa using e0
      obtain rfl : u3 = .int .u64 z := by simpa using e3
      obtain rfl : u4 = .int .i64 q := by simpa using e4
      have hz := nat_of_wf wz
      obtain ⟨f, rfl⟩ : ∃ f : Nat, z = (f : Int) := ⟨z.toNat, (Int.toNat_of_nonneg hz.1).symm⟩
      exact ⟨⟨⟨k, A, is, c, B, bs, d, f, q⟩, i1, i2, (int_of_wf wq).2, i3, j1⟩, rfl⟩
theorem open_acts {r : Reach} {b0 : Nat} {v : Value} {d : DataW H} {p : List MemPlace} (hval : Value.okWide Try.prog w r b0 36 v) (h : DataW.Trod enc Try.prog w base spare held 36 v d p) :
    ∃ (A : Option Addr) (c : Nat) (l : List ActL) (l5 : List Act5), l5 = l.map ActL.flat ∧ v = .slice A l5.length c ∧ l5.length ≤ 9223372036854775807 ∧ (∀ a ∈ l, a.Ok w) ∧ Ro w [] (SlA A (acs l5)) := by
  obtain ⟨fuel, hf⟩ := h
  obtain ⟨a, l, c, rfl⟩ := okWide_slice Try.underlying36 hval
  obtain ⟨A, c, xs, e, h1, h2, h3⟩ := open_flat (fun a : {a : ActL // a.Ok w} => acell a.1.flat) Try.underlying36 c26 (by decide) (fun _ => rfl) (fun n cs y => open_act) (show DataW.trod enc Try.prog w base spare held fuel 36 [.slice a l c] = some (d, p) from hf)
  simp only [maxLen] at h2
  refine ⟨A, c, xs.map (·.1), _, rfl, by rw [List.length_map, List.length_map]; exact e, by rw [List.length_map, List.length_map]; omega, fun a ha => ?_, ?_⟩
  · obtain ⟨b, _, rfl⟩ := List.mem_map.1 ha; exact b.2
  · rw [acs, List.map_map, List.flatMap_map]; exact h3
end
end Go.Proofs.Ytaoicbjgkghnnaa
