/-
  Walks: an act on both volumes; the law that they agree. Printed by a program of ours.
-/
import Derived.Test.YtaoicbjgkghnnaaNF
import Derived.Test.YtaoicbjgkghnnaaN4
import Derived.Test.YtaoicbjgkghnnaaQ1
namespace Go.Proofs.Ytaoicbjgkghnnaa
open Go.E
set_option linter.unusedVariables false
set_option maxRecDepth 4000
theorem Try.ent7 : Enters Try.prog 7 := ⟨_, Try.func7, by kernel_rfl, rfl⟩
theorem Try.ent13 : Enters Try.prog 13 := ⟨_, Try.func13, by kernel_rfl, rfl⟩
theorem Try.ent15 : Enters Try.prog 15 := ⟨_, Try.func15, by kernel_rfl, rfl⟩
theorem Try.ent16 : Enters Try.prog 16 := ⟨_, Try.func16, by kernel_rfl, rfl⟩
theorem Try.ent18 : Enters Try.prog 18 := ⟨_, Try.func18, by kernel_rfl, rfl⟩
theorem Try.ent19 : Enters Try.prog 19 := ⟨_, Try.func19, by kernel_rfl, rfl⟩
theorem Try.ent21 : Enters Try.prog 21 := ⟨_, Try.func21, by kernel_rfl, rfl⟩
theorem eqBlocks_T (A B : Option Addr) (c d : Nat) (us : List H32) (w0 : World) (hA : Ro w0 [] (SlA A (hcs us))) (hB : Ro w0 [] (SlA B (hcs us))) (h1 : us.length ≤ 9223372036854775807) : Calls Try.prog 18 #[.slice A us.length c, .slice B us.length d] w0 (Ret w0 (.bool true)) := by
  have h := eqBlocks_walk A B c d us us w0 hA hB h1
  rw [decide_eq_true rfl] at h
  exact Calls.ret h
theorem is_T (k : Nat) (w0 : World) : Calls Try.prog 15 #[errv 42 k, .int .i64 (k : Int)] w0 (Ret w0 (.bool true)) := by
  have h := is_walk k k w0
  rw [decide_eq_true rfl] at h
  exact Calls.ret h
theorem relM_nil : RelM ([] : Ms) ([] : Ls) := ⟨List.nodup_nil, List.Pairwise.nil, fun _ => rfl⟩
end Go.Proofs.Ytaoicbjgkghnnaa
