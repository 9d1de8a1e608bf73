/-
  'ExtractSides' returns true for every input, and each argument reads as it read before; the tables of the hash are tied to the program's text. No further condition.
-/
import Derived.Test.YtgdjcmehlhebdaaGreatDoorYSb
import Derived.Test.YtgdjcmehlhebdaaGreatDoorL1
import Derived.Test.YtgdjcmehlhebdaaGreatDoorYLF3
namespace Go.Proofs.YtgdjcmehlhebdaaGreatDoor
open Go.ChangeShapes Go.WideShapes Go.ChangeAt Go.RowKit Go.E
set_option linter.unusedVariables false

set_option maxRecDepth 100000 in
theorem extractSides_lifted (os : Os) (started : os.Started) (H : Type) (enc : TypeId × Value → H) :
    ReturnsInHanded {} Tryz.checked os 4 .any (fun w args => (Rows.extractSidesSpec.pre enc Tryz.prog Tryz.f4 [] false w args ∧ laidMetH Tryz.prog laid4 w) ∧ sizedMet enc Tryz.prog Tryz.f4 (OpenSpec.ofChange Rows.extractSidesSpec) false w args)
      (Rows.extractSidesSpec.post enc Tryz.prog Tryz.f4 false true false false) := by
  refine returnsInHanded_of_change_and (C := Tryz.checked) (X := fun w _ => laidMetH Tryz.prog laid4 w) (fun _ _ _ hh h => h.of_heap hh) own started (by kernel_rfl) Tryz.func4
    (ChangeSpec.witness_shaped (enc := enc) (C := Tryz.checked) (os := os) (X := fun w _ => laidMetH Tryz.prog laid4 w) false (World.doorLaid Tryz.prog 29 os) #[.int .i64 0, .int .u64 0, .agg #[.slice none 0 0, .slice none 0 0, .slice none 0 0, .slice none 0 0, .slice none 0 0, .slice none 0 0]] 8 rfl (World.shaped_of_RefB (by kernel_rfl) (by kernel_rfl)) (by kernel_rfl) (by kernel_rfl) (by kernel_rfl) (door_met4 os _)) ?_
  intro W base args ds gs before hval0 hW _ _ hL _
  have hval : ∀ (j : Nat) t v, Tryz.f4.params[j]? = some t → args[j]? = some v → Value.okWide Tryz.prog W .any base t v := hval0
  have hW' := hW
  obtain ⟨p, q, hA0, hV, rfl, hfz, hnd⟩ := hW
  have hA : DataW.TrodAll enc Tryz.prog W 0 (fun _ => true) true Tryz.f4.params.toList args.toList ds p := hA0
  rw [Tryz.params4] at hA hval
  obtain ⟨v0, vs0, d0, ds0, p0, q0, hargs, rfl, rfl, h0, r0⟩ := trodAll_cons hA
  obtain ⟨v1, vs1, d1, ds1, p1, q1, rfl, rfl, rfl, h1, r1⟩ := trodAll_cons r0
  obtain ⟨v2, vs2, d2, ds2, p2, q2, rfl, rfl, rfl, h2, r2⟩ := trodAll_cons r1
  obtain ⟨rfl, rfl, rfl⟩ := trodAll_nil r2
  obtain rfl : args = #[v0, v1, v2] := by cases args; simp_all
  obtain ⟨rfl, rfl⟩ := trodVars_none hV
  have k0 := h0
  have lt0 : ∀ x ∈ p0, x.block < W.heap.size := by obtain ⟨m, hm⟩ := k0; exact DataW.trod_lt m _ _ _ hm
  have k1 := h1
  have lt1 : ∀ x ∈ p1, x.block < W.heap.size := by obtain ⟨m, hm⟩ := k1; exact DataW.trod_lt m _ _ _ hm
  have k2 := h2
  have lt2 : ∀ x ∈ p2, x.block < W.heap.size := by obtain ⟨m, hm⟩ := k2; exact DataW.trod_lt m _ _ _ hm
  obtain ⟨hT, hT2⟩ := of_laid4 hL
  obtain ⟨z0, rfl, rfl, rfl, w0⟩ := open_int Tryz.underlying3 (hval 0 3 v0 rfl rfl) h0
  have b0 := int_of_wf w0
  obtain ⟨z1, rfl, rfl, rfl, w1⟩ := open_int Tryz.underlying40 (hval 1 40 v1 rfl rfl) h1
  obtain ⟨n1, rfl⟩ : ∃ f : Nat, z1 = (f : Int) := ⟨z1.toNat, (Int.toNat_of_nonneg (nat_of_wf w1).1).symm⟩
  have b1 := (nat_of_wf w1).2
  obtain ⟨A1, c1, l1, B1, d1x, a1, Z1, e1, b1, A2, c2, l2, B2, d2x, a2, Z2, e2, b2, rfl, ⟨x1, x2, x3, x4⟩, ⟨y1, y2, y3, y4⟩, ⟨s1, s2, s3⟩, ⟨t1, t2, t3⟩⟩ := open_six h2
  clear hA0 hval0
  refine (extractSides_R z0 n1 (by omega) A1 c1 l1 B1 d1x a1 Z1 e1 b1 A2 c2 l2 B2 d2x a2 Z2 e2 b2 x1 x2 x3 x4 y1 y2 y3 y4 W s1 s2 s3 t1 t2 t3 hT hT2).mono fun e W' ⟨v, L, he, hst, hv, hL'⟩ => ?_
  subst hv hL' he
  have bel := St.below hst
  exact ⟨_, rfl, _, _, _, [], _, [], hW', trodAll_mk1 (shut_bool Tryz.underlying4 _), (trodAll_cons_mk (Below.trod laidOut (by kernel_rfl) (of_decide_eq_true (by kernel_rfl)) k0 bel lt0) (trodAll_cons_mk (Below.trod laidOut (by kernel_rfl) (of_decide_eq_true (by kernel_rfl)) k1 bel lt1) (trodAll_cons_mk (Below.trod laidOut (by kernel_rfl) (of_decide_eq_true (by kernel_rfl)) k2 bel lt2) trodAll_mk0))), rfl, bel.frame _, fun h => by cases h⟩

theorem extractSides_over : Rows.ExtractSidesSaid :=
  OpenClaim.holds_of_wide 4 Tryz.f4 rfl rfl rfl rfl rfl rfl rfl ⟨rfl, rfl, rfl, rfl, rfl⟩ rfl rfl rfl rfl rfl extractSides_named Tryz.func4 extractSides_closed extractSides_inst extractSides_wrap
    (fun os started H enc _ => extractSides_lifted os started H enc)

theorem extractSides_holds : Rows.ExtractSidesCardSaid :=
  Claim7.holds_tied_plain_at .later [] [.data, .data, .data, .data] true (true, "4c16785e4191ca16ea72c4adef5eb6638e00517cd767ae6afbc15addc7395fef") true
    extractSides_over (fun _ h => by cases h) (by kernel_rfl) (fun _ h => by cases h) extractSides_row_tie rfl ⟨rfl, rfl⟩ (by kernel_rfl) rfl
    (fun f fn hf hfn => by
      obtain rfl : f = 4 := Option.some.inj (extractSides_named.symm.trans hf) |>.symm
      obtain rfl : fn = Tryz.f4 := (Option.some.inj (Tryz.func4.symm.trans hfn)).symm
      exact ⟨by kernel_rfl, fun j t ht => by
        rw [Tryz.params4] at ht
        have hm : t ∈ [3, 40, 41] := by simpa using Array.mem_of_getElem? ht
        have hall : ([3, 40, 41].all fun u => !Tryz.prog.wantsStandIn u) = true := by kernel_rfl
        exact (show Tryz.prog.wantsStandIn t = false by simpa using List.all_eq_true.1 hall t hm)⟩)
    (by kernel_rfl)
#print axioms extractSides_holds
end Go.Proofs.YtgdjcmehlhebdaaGreatDoor
