/- 'ExtractTruths' returns true for every input, and each argument reads as it read before; t -/
import Derived.Test.YtgdjcmehlhebdaaGreatDoorYU4
import Derived.Test.YtgdjcmehlhebdaaGreatDoorL1
set_option maxHeartbeats 25600000
set_option linter.all false
namespace Go.Proofs.YtgdjcmehlhebdaaGreatDoor
open _root_.Go.Proofs.Tryz
open Go.ChangeShapes Go.WideShapes Go.ChangeAt Go.RowKit Go.E
set_option maxRecDepth 100000 in
theorem zab (os : Os) (started : os.Started) (H : Type) (enc : TypeId × Value → H) :
  ReturnsInHanded {} checked os 5 .any (fun w args => (Rows.extractTruthsSpec.pre enc prog f5 [] false w args ∧ laidMetH prog DR w) ∧ sizedMet enc prog f5 (OpenSpec.ofChange Rows.extractTruthsSpec) false w args)
   (Rows.extractTruthsSpec.post enc prog f5 false true false false) := by
 refine returnsInHanded_of_change_and (C := checked) (X := fun w _ => laidMetH prog DR w) (fun _ _ _ hh h => h.of_heap hh) own started (by kernel_rfl) func5
  (ChangeSpec.witness_shaped (enc := enc) (C := checked) (os := os) (X := fun w _ => laidMetH prog DR w) false (World.doorLaid prog 29 os) #[.int .u64 0, .slice none 0 0, .agg #[.int .u64 0, .int .i64 0, .slice none 0 0, .int .u64 0, .int .i64 0, .int .u64 0, .int .u64 0, .int .i64 0, .slice none 0 0, .slice none 0 0, .int .u64 0, .int .u8 0, .int .u8 0, .int .u8 0, .int .u8 0, .int .u8 0, .int .u8 0, .int .u8 0, .int .u8 0, .int .u8 0, .int .u8 0, .int .u8 0, .int .u8 0, .int .u8 0, .int .u8 0, .int .u8 0, .int .u8 0, .int .u64 0, .int .u64 0, .int .i64 0, .int .i64 0, .slice none 0 0, .bool false, .int .u64 0, .int .u64 0, .int .i64 0, .slice none 0 0, .slice none 0 0, .int .u64 0, .int .u8 0, .int .u8 0, .int .u8 0, .int .u8 0, .int .u8 0, .int .u8 0, .int .u8 0, .int .u8 0, .int .u8 0, .int .u8 0, .int .u8 0, .int .u8 0, .int .u8 0, .int .u8 0, .int .u8 0, .int .u8 0, .slice none 0 0, .slice none 0 0, .int .i64 0, .slice none 0 0, .slice none 0 0, .int .u64 0]] 8 rfl (World.shaped_of_RefB (by kernel_rfl) (by kernel_rfl)) (by kernel_rfl) (by kernel_rfl) (by kernel_rfl) (zeT os _)) ?_
 intro W base args ds gs before hval0 hW _ hwt hL _
 have hval : ∀ (j : Nat) t v, f5.params[j]? = some t → args[j]? = some v → Value.okWide prog W .any base t v := hval0
 have hW' := hW
 obtain ⟨p, q, hA0, hV, rfl, hfz, hnd⟩ := hW
 have hA : DataW.TrodAll enc prog W 0 (fun _ => true) true f5.params.toList args.toList ds p := hA0
 rw [params5] at hA hval
 obtain ⟨v0, vs0, d0, ds0, p0, q0, hargs, rfl, rfl, h0, r0⟩ := trodAll_cons hA
 obtain ⟨v1, vs1, d1, ds1, p1, q1, rfl, rfl, rfl, h1, r1⟩ := trodAll_cons r0
 obtain ⟨v2, vs2, d2, ds2, p2, q2, rfl, rfl, rfl, h2, r2⟩ := trodAll_cons r1
 obtain ⟨rfl, rfl, rfl⟩ := trodAll_nil r2
 obtain rfl : args = #[v0, v1, v2] := by cases args; simp_all
 obtain ⟨rfl, rfl⟩ := trodVars_none hV
 have k0 := h0
 have lt0 : ∀ x ∈ p0, x.block < W.heap.size := by obtain ⟨m, hm⟩ := k0; exact DataW.trod_lt m _ _ _ hm
 have k1 := h1
 have lt1 : ∀ x ∈ p1, x.block < W.heap.size := by obtain ⟨m, hm⟩ := k1; exact DataW.trod_lt m _ _ _ hm
 have k2 := h2
 have lt2 : ∀ x ∈ p2, x.block < W.heap.size := by obtain ⟨m, hm⟩ := k2; exact DataW.trod_lt m _ _ _ hm
 obtain ⟨hT, hT2⟩ := zhf hL
 obtain ⟨z0, rfl, rfl, rfl, w0⟩ := open_int underlying40 (hval 0 40 v0 rfl rfl) h0
 obtain ⟨n0, rfl⟩ : ∃ f : Nat, z0 = (f : Int) := ⟨z0.toNat, (Int.toNat_of_nonneg (iC w0).1).symm⟩
 have b0 := (iC w0).2
 rw [show f5.params.toList = [40, 55, 67] by rw [params5]] at hwt
 simp only [List.cons_append, List.nil_append] at hwt
 have hwt1 : (d1.weights prog 55).all (· ≤ reachBytes) = true := zc3 hwt
 have hwt2 : (d2.weights prog 67).all (· ≤ reachBytes) = true := zc4 hwt
 obtain ⟨A1, c1, os1, rfl, oks1, ro1, len1⟩ := zcE (hval 1 55 v1 rfl rfl) h1 hwt1
 obtain ⟨q2x, p2x, x2, rfl, oq2, or2, ox2, qs1, qs2, rs1, rs2⟩ := zfv h2 hwt2
 clear hA0 hval0
 refine (zai n0 ow A1 c1 os1 len1 q2x p2x x2 qs2 rs2 W ro1 oks1 oq2 or2 qs1 rs1 ox2 hT hT2).mono fun e W' ⟨v, L, he, hst, hv, hL'⟩ => ?_
 subst hv hL' he
 have bel := zgx hst
 exact ⟨_, rfl, _, _, _, [], _, [], hW', trodAll_mk1 (shut_bool underlying4 _), (trodAll_cons_mk (Below.trod BP (by kernel_rfl) (of_decide_eq_true (by kernel_rfl)) k0 bel lt0) (trodAll_cons_mk (Below.trod BP (by kernel_rfl) (of_decide_eq_true (by kernel_rfl)) k1 bel lt1) (trodAll_cons_mk (Below.trod BP (by kernel_rfl) (of_decide_eq_true (by kernel_rfl)) k2 bel lt2) trodAll_mk0))), rfl, bel.frame _, fun h => by cases h⟩
theorem zad : Rows.ExtractTruthsSaid :=
 OpenClaim.holds_of_wide 5 f5 rfl rfl rfl rfl rfl rfl rfl ⟨rfl, rfl, rfl, rfl, rfl⟩ rfl rfl rfl rfl rfl extractTruths_named func5 zaa zac zae
  (fun os started H enc _ => zab os started H enc)
theorem extractTruths_holds : Rows.ExtractTruthsCardSaid :=
 Claim7.holds_tied_plain_at .later [] [.data, .data, .data, .data] true (true, "4c16785e4191ca16ea72c4adef5eb6638e00517cd767ae6afbc15addc7395fef") true
  zad (fun _ h => by cases h) (by kernel_rfl) (fun _ h => by cases h) extractTruths_row_tie rfl ⟨rfl, rfl⟩ (by kernel_rfl) rfl
  (fun f fn hf hfn => by
   obtain rfl : f = 5 := Option.some.inj (extractTruths_named.symm.trans hf) |>.symm
   obtain rfl : fn = f5 := (Option.some.inj (func5.symm.trans hfn)).symm
   exact ⟨by kernel_rfl, fun j t ht => by
    rw [params5] at ht
    have hm : t ∈ [40, 55, 67] := by simpa using Array.mem_of_getElem? ht
    have hall : ([40, 55, 67].all fun u => !prog.wantsStandIn u) = true := by kernel_rfl
    exact (show prog.wantsStandIn t = false by simpa using List.all_eq_true.1 hall t hm)⟩)
  (by kernel_rfl)
#print axioms extractTruths_holds
end Go.Proofs.YtgdjcmehlhebdaaGreatDoor
