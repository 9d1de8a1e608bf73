/-
  'ModelPlays' returns true for every input, and each argument reads as it read before. No condition.
-/
import Derived.Test.YtaoicbjgkghnnaaNO
import Derived.Test.YtaoicbjgkghnnaaNG
import Derived.Test.YtaoicbjgkghnnaaNP4
namespace Go.Proofs.Ytaoicbjgkghnnaa
open Go.ChangeShapes Go.WideShapes Go.ChangeAt Go.RowKit Go.E
set_option linter.unusedVariables false

set_option maxRecDepth 100000 in
theorem modelPlays_lifted (os : Os) (started : os.Started) (H : Type) (enc : TypeId × Value → H) :
    ReturnsInHanded {} Try.checked os 4 .any (Rows.modelPlaysSpec.pre6 enc Try.prog Try.f4 Rows.modelPlaysRow.domain false) (Rows.modelPlaysSpec.post enc Try.prog Try.f4 false true false false) := by
  refine returnsInHanded_of_change (C := Try.checked) own started (by kernel_rfl) Try.func4
    (ChangeSpec.witness6 (enc := enc) (C := Try.checked) false ⟨#[], #[.int .u64 0, .slice none 0 0], []⟩ 8 (by kernel_rfl) (by kernel_rfl) (by kernel_rfl) (by kernel_rfl)) ?_
  intro W base args ds gs before hval0 hW hcnd _
  have hval : ∀ (j : Nat) t v, Try.f4.params[j]? = some t → args[j]? = some v → Value.okWide Try.prog W .any base t v := hval0
  have hW' := hW
  obtain ⟨p, q, hA0, hV, rfl, hfz, hnd⟩ := hW
  have hA : DataW.TrodAll enc Try.prog W 0 (fun _ => true) true Try.f4.params.toList args.toList ds p := hA0
  rw [Try.params4] at hA hval
  obtain ⟨v0, vs0, d0, ds0, p0, q0, hargs, rfl, rfl, h0, r0⟩ := trodAll_cons hA
  obtain ⟨v1, vs1, d1, ds1, p1, q1, rfl, rfl, rfl, h1, r1⟩ := trodAll_cons r0
  obtain ⟨rfl, rfl, rfl⟩ := trodAll_nil r1
  obtain rfl : args = #[v0, v1] := by cases args; simp_all
  obtain ⟨rfl, rfl⟩ := trodVars_none hV
  have k0 := h0
  have lt0 : ∀ x ∈ p0, x.block < W.heap.size := by obtain ⟨m, hm⟩ := k0; exact DataW.trod_lt m _ _ _ hm
  have k1 := h1
  have lt1 : ∀ x ∈ p1, x.block < W.heap.size := by obtain ⟨m, hm⟩ := k1; exact DataW.trod_lt m _ _ _ hm
  obtain ⟨z0, rfl, rfl, rfl, w0⟩ := open_int Try.underlying24 (hval 0 24 v0 rfl rfl) h0
  obtain ⟨n0, rfl⟩ : ∃ f : Nat, z0 = (f : Int) := ⟨z0.toNat, (Int.toNat_of_nonneg (nat_of_wf w0).1).symm⟩
  obtain ⟨A, c, l, l5, hl5, rfl, hlen, hok, hA1⟩ := open_acts (hval 1 36 v1 rfl rfl) h1
  clear hA0 hval0
  refine (modelPlays_walk n0 A c l l5 hl5 W hA1 hlen hok).mono fun e W' ⟨v, L, he, hst, hv, hL'⟩ => ?_
  subst hv hL' he
  have bel := St.below hst
  exact ⟨_, rfl, _, _, _, [], _, [], hW', trodAll_mk1 (shut_bool Try.underlying4 _), (trodAll_cons_mk (Below.trod laidOut (by kernel_rfl) (of_decide_eq_true (by kernel_rfl)) k0 bel lt0) (trodAll_cons_mk (Below.trod laidOut (by kernel_rfl) (of_decide_eq_true (by kernel_rfl)) k1 bel lt1) trodAll_mk0)), rfl, bel.frame _, fun h => by cases h⟩

theorem modelPlays_over : Rows.modelPlaysRow.holds Try.pinned (OpenSpec.ofChange Rows.modelPlaysSpec) :=
  OpenClaim.holds_of_wide 4 Try.f4 rfl rfl rfl rfl rfl rfl rfl ⟨rfl, rfl, rfl, rfl, rfl⟩ rfl rfl rfl rfl rfl modelPlays_named Try.func4 modelPlays_closed modelPlays_inst modelPlays_wrap
    (fun os started H enc _ => modelPlays_lifted os started H enc)

theorem modelPlays_holds : Rows.ModelPlaysSaid := modelPlays_over
#print axioms modelPlays_holds
end Go.Proofs.Ytaoicbjgkghnnaa
