/-
  'ModelNil' returns true for every input, and its argument reads as it read before. No condition.
-/
import Derived.Test.YtaoicbjgkghnnaaAsks
namespace Go.Proofs.Ytaoicbjgkghnnaa
open Go.ChangeShapes Go.WideShapes Go.ChangeAt Go.RowKit Go.E
set_option linter.unusedVariables false

theorem slice_form {H : Type} {enc : TypeId × Value → H} {W : World} {base : Nat} {spare : Nat → Bool} {held : Bool} {t e : TypeId} {fuel : Nat} {v : Value} {y : DataW H × List MemPlace} (ht : Try.prog.underlying t = some (.slice e))
    (h : DataW.trod enc Try.prog W base spare held fuel t [v] = some y) : ∃ A n c, v = .slice A n c := by
  rcases DataW.trod_slice ht h with ⟨hcs, _⟩ | ⟨a, len, cap, elems, rest, n, _, hcs, _⟩
  · exact ⟨none, 0, 0, by simpa using hcs⟩
  · exact ⟨some a, len, cap, by simpa using hcs⟩

set_option maxRecDepth 100000 in
theorem nil_lifted (os : Os) (started : os.Started) (H : Type) (enc : TypeId × Value → H) :
    ReturnsInHanded {} Try.checked os 6 .any (Rows.modelNilSpec.pre6 enc Try.prog Try.f6 Rows.modelNilRow.domain false) (Rows.modelNilSpec.post enc Try.prog Try.f6 false true false false) := by
  refine returnsInHanded_of_change (C := Try.checked) own started (by kernel_rfl) Try.func6
    (ChangeSpec.witness6 (enc := enc) (C := Try.checked) false ⟨#[], #[.agg #[.int .i64 0, .slice none 0 0, .slice none 0 0, .int .u64 0, .int .i64 0]], []⟩ 8 (by kernel_rfl) (by kernel_rfl) (by kernel_rfl) (by kernel_rfl)) ?_
  intro W base args ds gs before hval0 hW hcnd _
  have hval : ∀ (j : Nat) t v, Try.f6.params[j]? = some t → args[j]? = some v → Value.okWide Try.prog W .any base t v := hval0
  have hW' := hW
  obtain ⟨p, q, hA0, hV, rfl, hfz, hnd⟩ := hW
  have hA : DataW.TrodAll enc Try.prog W 0 (fun _ => true) true Try.f6.params.toList args.toList ds p := hA0
  rw [Try.params6] at hA hval
  obtain ⟨v1, vs1, d1, ds1, p1, q1, hargs, rfl, rfl, h1, r1⟩ := trodAll_cons hA
  obtain ⟨rfl, rfl, rfl⟩ := trodAll_nil r1
  obtain rfl : args = #[v1] := by cases args; simp_all
  obtain ⟨rfl, rfl⟩ := trodVars_none hV
  have k1 := h1
  have lt1 : ∀ x ∈ p1, x.block < W.heap.size := by obtain ⟨m, hm⟩ := k1; exact DataW.trod_lt m _ _ _ hm
  obtain ⟨c0', c1', c2', c3', c4', y0, y1, y2, y3, y4, n, rfl, _, _, hf0, hf1, hf2, hf3, hf4⟩ := open_agg5 Try.underlying26 (by kernel_rfl) (by kernel_rfl) (hval 0 26 v1 rfl rfl) h1
  obtain ⟨k, hk, _, _⟩ := DataW.trod_int Try.underlying3 hf0
  obtain ⟨f, hf, _, wf⟩ := DataW.trod_int Try.underlying24 hf3
  obtain ⟨m, hm', _, wm⟩ := DataW.trod_int Try.underlying3 hf4
  obtain ⟨A, na, ca, rfl⟩ := slice_form Try.underlying22 hf1
  obtain ⟨B, nb, cb, rfl⟩ := slice_form Try.underlying23 hf2
  obtain rfl : c0' = .int .i64 k := by simpa using hk
  obtain rfl : c3' = .int .u64 f := by simpa using hf
  obtain rfl : c4' = .int .i64 m := by simpa using hm'
  obtain ⟨f', rfl⟩ : ∃ f' : Nat, f = (f' : Int) := ⟨f.toNat, (Int.toNat_of_nonneg (nat_of_wf wf).1).symm⟩
  clear hA0 hval0
  refine (modelNil_walk k A na ca B nb cb f' m W).mono fun e W' ⟨v, L, he, hst, hv, hL⟩ => ?_
  subst hv hL he
  have bel := St.below hst
  exact ⟨_, rfl, _, _, _, [], _, [], hW', trodAll_mk1 (shut_bool Try.underlying4 _), (trodAll_cons_mk (Below.trod laidOut (by kernel_rfl) (of_decide_eq_true (by kernel_rfl)) k1 bel lt1) trodAll_mk0), rfl, bel.frame _, fun h => by cases h⟩

theorem nil_over : Rows.modelNilRow.holds Try.pinned (OpenSpec.ofChange Rows.modelNilSpec) :=
  OpenClaim.holds_of_wide 6 Try.f6 rfl rfl rfl rfl rfl rfl rfl ⟨rfl, rfl, rfl, rfl, rfl⟩ rfl rfl rfl rfl rfl (by kernel_rfl) Try.func6 (by kernel_rfl)
    (of_decide_eq_true (by kernel_rfl)) (by unfold Func.isWrapper; first | (rw [if_pos (by decide +kernel)]; kernel_rfl) | (rw [if_neg (by decide +kernel)]; exact ⟨rfl, rfl⟩))
    (fun os started H enc _ => nil_lifted os started H enc)

theorem modelNil_holds : Rows.ModelNilSaid := nil_over
#print axioms modelNil_holds
end Go.Proofs.Ytaoicbjgkghnnaa
