/-
  'ModelAsks' returns true for every input, and each argument reads as it read before. No condition.
-/
import Derived.Test.YtaoicbjgkghnnaaWalks
import Derived.Test.YtaoicbjgkghnnaaMO
import Derived.Test.YtaoicbjgkghnnaaRows
import Derived.WalkKit
import Derived.ProofKit
import Derived.OpenShut
import Derived.ShutString
import Derived.ChangeOld
namespace Go.Proofs.Ytaoicbjgkghnnaa
open Go.ChangeShapes Go.WideShapes Go.ChangeAt Go.RowKit Go.E
open Go.ChangeMaps (open_string shut_string)
set_option linter.unusedVariables false

theorem own : ownKnob Try.prog.godebug = none := by kernel_rfl
theorem laidOut : laidOutB Try.prog = true := by kernel_rfl

set_option maxRecDepth 100000 in
theorem asks_lifted (os : Os) (started : os.Started) (H : Type) (enc : TypeId × Value → H) :
    ReturnsInHanded {} Try.checked os 3 .any (Rows.modelAsksSpec.pre6 enc Try.prog Try.f3 Rows.modelAsksRow.domain false) (Rows.modelAsksSpec.post enc Try.prog Try.f3 false true false false) := by
  refine returnsInHanded_of_change (C := Try.checked) own started (by kernel_rfl) Try.func3
    (ChangeSpec.witness6 (enc := enc) (C := Try.checked) false ⟨#[], #[.slice none 0 0, .agg #[.int .i64 0, .slice none 0 0, .slice none 0 0, .int .u64 0, .int .i64 0], .int .u64 0], []⟩ 8 (by kernel_rfl) (by kernel_rfl) (by kernel_rfl) (by kernel_rfl)) ?_
  intro W base args ds gs before hval0 hW hcnd _
  have hval : ∀ (j : Nat) t v, Try.f3.params[j]? = some t → args[j]? = some v → Value.okWide Try.prog W .any base t v := hval0
  have hW' := hW
  obtain ⟨p, q, hA0, hV, rfl, hfz, hnd⟩ := hW
  have hA : DataW.TrodAll enc Try.prog W 0 (fun _ => true) true Try.f3.params.toList args.toList ds p := hA0
  rw [Try.params3] at hA hval
  obtain ⟨v0, vs0, d0, ds0, p0, q0, hargs, rfl, rfl, h0, r0⟩ := trodAll_cons hA
  obtain ⟨v1, vs1, d1, ds1, p1, q1, rfl, rfl, rfl, h1, r1⟩ := trodAll_cons r0
  obtain ⟨v2, vs2, d2, ds2, p2, q2, rfl, rfl, rfl, h2, r2⟩ := trodAll_cons r1
  obtain ⟨rfl, rfl, rfl⟩ := trodAll_nil r2
  obtain rfl : args = #[v0, v1, v2] := by cases args; simp_all
  obtain ⟨rfl, rfl⟩ := trodVars_none hV
  obtain ⟨A, n0, c0, rfl⟩ := okWide_slice Try.underlying22 (hval 0 22 v0 rfl rfl)
  have k0 := h0
  have lt0 : ∀ x ∈ p0, x.block < W.heap.size := by obtain ⟨m, hm⟩ := k0; exact DataW.trod_lt m _ _ _ hm
  have k1 := h1
  have lt1 : ∀ x ∈ p1, x.block < W.heap.size := by obtain ⟨m, hm⟩ := k1; exact DataW.trod_lt m _ _ _ hm
  obtain ⟨xs, rfl, hc, hm, hR⟩ : ∃ xs : List Nat, xs.length = n0 ∧ xs.length ≤ c0 ∧ c0 ≤ 9223372036854775807 ∧ Ro W [] (SlA A (u64s xs)) := by
    obtain ⟨fuel, hf⟩ := h0
    rcases open_ints Try.underlying22 Try.underlying24 (by kernel_rfl) hf with ⟨hcs, _⟩ | ⟨x, l, c, zs, hcs, _, hl, hm, hz, hx, hcell, hwz⟩
    · simp [Value.cells] at hcs
      obtain ⟨rfl, rfl, rfl⟩ := hcs
      exact ⟨[], rfl, Nat.le_refl _, by decide, u64s_none W⟩
    · simp [Value.cells] at hcs
      obtain ⟨rfl, rfl, rfl⟩ := hcs
      simp only [if_true] at hz
      simp only [maxLen] at hm
      rcases Nat.eq_zero_or_pos n0 with rfl | hpos
      · exact ⟨[], rfl, by simp, by omega, ⟨fun j u hj => by simp [u64s] at hj, fun b hb => by rw [SlA_fp] at hb; obtain ⟨_, _, _, he⟩ := mem_slfp hb; exact absurd rfl he⟩⟩
      · have hb : x.block < W.heap.size := by
          have := hcell 0 (by omega)
          exact cell_lt this
        obtain ⟨xs, h1, h2⟩ := u64s_open (len := n0) (by omega) hcell hwz hb
        exact ⟨xs, h1, by omega, by omega, h2⟩
  obtain ⟨c0', c1', c2', c3', c4', y0, y1, y2, y3, y4, n, rfl, _, _, _, _, _, hf3, hf4⟩ := open_agg5 Try.underlying26 (by kernel_rfl) (by kernel_rfl) (hval 1 26 v1 rfl rfl) h1
  obtain ⟨f, hf, _, wf⟩ := DataW.trod_int Try.underlying24 hf3
  obtain ⟨m, hm', _, wm⟩ := DataW.trod_int Try.underlying3 hf4
  obtain rfl : c3' = .int .u64 f := by simpa using hf
  obtain rfl : c4' = .int .i64 m := by simpa using hm'
  obtain ⟨n2, rfl, rfl, rfl, w2⟩ := open_int Try.underlying24 (hval 2 24 v2 rfl rfl) h2
  obtain ⟨f', rfl⟩ : ∃ f' : Nat, f = (f' : Int) := ⟨f.toNat, (Int.toNat_of_nonneg (nat_of_wf wf).1).symm⟩
  obtain ⟨n', rfl⟩ : ∃ f' : Nat, n2 = (f' : Int) := ⟨n2.toNat, (Int.toNat_of_nonneg (nat_of_wf w2).1).symm⟩
  have hn := (nat_of_wf w2).2
  have hmm := (int_of_wf wm).2
  clear hA0 hval0
  refine (modelAsks_walk A c0 xs c0' c1' c2' f' m n' W hR hc hm (by omega) hmm).mono fun e W' ⟨v, L, he, hst, hv, hL⟩ => ?_
  subst hv hL he
  have bel := St.below hst
  exact ⟨_, rfl, _, _, _, [], _, [], hW', trodAll_mk1 (shut_bool Try.underlying4 _), (trodAll_cons_mk (Below.trod laidOut (by kernel_rfl) (of_decide_eq_true (by kernel_rfl)) k0 bel lt0) (trodAll_cons_mk (Below.trod laidOut (by kernel_rfl) (of_decide_eq_true (by kernel_rfl)) k1 bel lt1) (trodAll_cons_mk (shut_int Try.underlying24 w2) trodAll_mk0))), rfl, bel.frame _, fun h => by cases h⟩

theorem asks_over : Rows.modelAsksRow.holds Try.pinned (OpenSpec.ofChange Rows.modelAsksSpec) :=
  OpenClaim.holds_of_wide 3 Try.f3 rfl rfl rfl rfl rfl rfl rfl ⟨rfl, rfl, rfl, rfl, rfl⟩ rfl rfl rfl rfl rfl (by kernel_rfl) Try.func3 (by kernel_rfl)
    (of_decide_eq_true (by kernel_rfl)) (by unfold Func.isWrapper; first | (rw [if_pos (by decide +kernel)]; kernel_rfl) | (rw [if_neg (by decide +kernel)]; exact ⟨rfl, rfl⟩))
    (fun os started H enc _ => asks_lifted os started H enc)

theorem modelAsks_holds : Rows.ModelAsksSaid := asks_over
#print axioms modelAsks_holds
end Go.Proofs.Ytaoicbjgkghnnaa
