/-
  'ModelLast' returns true for every input, and each argument reads as it read before. No condition.
-/
import Derived.Test.YtaoicbjgkghnnaaNO
import Derived.Test.YtaoicbjgkghnnaaNI
import Derived.Test.YtaoicbjgkghnnaaNP5
namespace Go.Proofs.Ytaoicbjgkghnnaa
open Go.ChangeShapes Go.WideShapes Go.ChangeAt Go.RowKit Go.E
set_option linter.unusedVariables false

set_option maxRecDepth 100000 in
theorem modelLast_lifted (os : Os) (started : os.Started) (H : Type) (enc : TypeId × Value → H) :
    ReturnsInHanded {} Try.checked os 5 .any (Rows.modelLastSpec.pre6 enc Try.prog Try.f5 Rows.modelLastRow.domain false) (Rows.modelLastSpec.post enc Try.prog Try.f5 false true false false) := by
  refine returnsInHanded_of_change (C := Try.checked) own started (by kernel_rfl) Try.func5
    (ChangeSpec.witness6 (enc := enc) (C := Try.checked) false ⟨#[], #[.int .u64 0, .slice none 0 0, .int .u64 0], []⟩ 8 (by kernel_rfl) (by kernel_rfl) (by kernel_rfl) (by kernel_rfl)) ?_
  intro W base args ds gs before hval0 hW hcnd _
  have hval : ∀ (j : Nat) t v, Try.f5.params[j]? = some t → args[j]? = some v → Value.okWide Try.prog W .any base t v := hval0
  have hW' := hW
  obtain ⟨p, q, hA0, hV, rfl, hfz, hnd⟩ := hW
  have hA : DataW.TrodAll enc Try.prog W 0 (fun _ => true) true Try.f5.params.toList args.toList ds p := hA0
  rw [Try.params5] at hA hval
  obtain ⟨v0, vs0, d0, ds0, p0, q0, hargs, rfl, rfl, h0, r0⟩ := trodAll_cons hA
  obtain ⟨v1, vs1, d1, ds1, p1, q1, rfl, rfl, rfl, h1, r1⟩ := trodAll_cons r0
  obtain ⟨v2, vs2, d2, ds2, p2, q2, rfl, rfl, rfl, h2, r2⟩ := trodAll_cons r1
  obtain ⟨rfl, rfl, rfl⟩ := trodAll_nil r2
  obtain rfl : args = #[v0, v1, v2] := by cases args; simp_all
  obtain ⟨rfl, rfl⟩ := trodVars_none hV
  have k0 := h0
  have lt0 : ∀ x ∈ p0, x.block < W.heap.size := by obtain ⟨m, hm⟩ := k0; exact DataW.trod_lt m _ _ _ hm
  have k1 := h1
  have lt1 : ∀ x ∈ p1, x.block < W.heap.size := by obtain ⟨m, hm⟩ := k1; exact DataW.trod_lt m _ _ _ hm
  have k2 := h2
  have lt2 : ∀ x ∈ p2, x.block < W.heap.size := by obtain ⟨m, hm⟩ := k2; exact DataW.trod_lt m _ _ _ hm
  obtain ⟨z0, rfl, rfl, rfl, w0⟩ := open_int Try.underlying24 (hval 0 24 v0 rfl rfl) h0
  obtain ⟨n0, rfl⟩ : ∃ f : Nat, z0 = (f : Int) := ⟨z0.toNat, (Int.toNat_of_nonneg (nat_of_wf w0).1).symm⟩
  obtain ⟨A, c, l, l5, hl5, rfl, hlen, hok, hA1⟩ := open_acts (hval 1 36 v1 rfl rfl) h1
  obtain ⟨z2, rfl, rfl, rfl, w2⟩ := open_int Try.underlying24 (hval 2 24 v2 rfl rfl) h2
  obtain ⟨n2, rfl⟩ : ∃ f : Nat, z2 = (f : Int) := ⟨z2.toNat, (Int.toNat_of_nonneg (nat_of_wf w2).1).symm⟩
  clear hA0 hval0
  refine (modelLast_walk n0 A c l l5 hl5 n2 W hA1 hlen hok).mono fun e W' ⟨v, L, he, hst, hv, hL'⟩ => ?_
  subst hv hL' he
  have bel := St.below hst
  exact ⟨_, rfl, _, _, _, [], _, [], hW', trodAll_mk1 (shut_bool Try.underlying4 _), (trodAll_cons_mk (Below.trod laidOut (by kernel_rfl) (of_decide_eq_true (by kernel_rfl)) k0 bel lt0) (trodAll_cons_mk (Below.trod laidOut (by kernel_rfl) (of_decide_eq_true (by kernel_rfl)) k1 bel lt1) (trodAll_cons_mk (Below.trod laidOut (by kernel_rfl) (of_decide_eq_true (by kernel_rfl)) k2 bel lt2) trodAll_mk0))), rfl, bel.frame _, fun h => by cases h⟩

theorem modelLast_over : Rows.modelLastRow.holds Try.pinned (OpenSpec.ofChange Rows.modelLastSpec) :=
  OpenClaim.holds_of_wide 5 Try.f5 rfl rfl rfl rfl rfl rfl rfl ⟨rfl, rfl, rfl, rfl, rfl⟩ rfl rfl rfl rfl rfl modelLast_named Try.func5 modelLast_closed modelLast_inst modelLast_wrap
    (fun os started H enc _ => modelLast_lifted os started H enc)

theorem modelLast_holds : Rows.ModelLastSaid := modelLast_over
#print axioms modelLast_holds
end Go.Proofs.Ytaoicbjgkghnnaa
