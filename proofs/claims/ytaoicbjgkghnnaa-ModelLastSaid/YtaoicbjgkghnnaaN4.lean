/-
  Walks: the document's volume. Printed by a program of ours. Walks: the calls of the document's volume. Printed by a program of ours. Walks: one act of the document's. Printed by a program of ours.
-/
import Derived.Test.YtaoicbjgkghnnaaNF
import Derived.Test.YtaoicbjgkghnnaaN3
namespace Go.Proofs.Ytaoicbjgkghnnaa
open Go.E
set_option linter.unusedVariables false
set_option maxRecDepth 4000
theorem rd_own {w0 w : World} {M : List Nat} {L : List Assn} {e : TypeId} {sz : Nat} {A : Option Addr} {n c : Nat} {xs : List Value} (h : St w0 M L w) (i : Nat) (hi : L[i]? = some (OwnA e sz A n c xs)) : Ro w [] (SlA A xs) := Rd.own (C := ⟨Try.prog, 0, w0, M, none⟩) (Rd.at i hi) w h
end Go.Proofs.Ytaoicbjgkghnnaa
namespace Go.Proofs.Ytaoicbjgkghnnaa
open Go.E
set_option linter.unusedVariables false
set_option maxRecDepth 4000
end Go.Proofs.Ytaoicbjgkghnnaa
namespace Go.Proofs.Ytaoicbjgkghnnaa
open Go.E
set_option linter.unusedVariables false
set_option maxRecDepth 4000
theorem new_bad_sized (n : Nat) (h : ¬ (1 ≤ n ∧ n ≤ 4294967296)) (w : World) : Calls Try.prog 29 #[.int .u64 (n : Int)] w (Ret w (.bool false)) := by
  have h1 := sized_walk n w
  rw [decide_eq_false h] at h1
  exact Calls.ret h1
set_option maxHeartbeats 400000 in
theorem new_bad_walk (n : Nat) (h : ¬ (1 ≤ n ∧ n ≤ 4294967296)) (w0 : World) :
    Calls Try.prog 14 #[.int .u64 (n : Int)] w0 (Post w0 [] fun v L => v = .tuple #[.pointer none, errv 42 1] ∧ L = []) := by
  refine Calls.of (L := []) (n := 12) (rs := [.tmp 2, .tmp 3]) Try.func14 rfl rfl rfl (Nat.le_of_ble_eq_true rfl) (Sat.nil _) ?_
  refine TC.seq ?_
  refine TC.region ?_
  refine S.q rfl rfl (Qt.assign (by conv => lhs; whnf)) ?_
  refine S.q rfl rfl (Qt.assign (by conv => lhs; whnf)) ?_
  refine S.nil ?_
  refine TC.seq ?_
  refine TC.seq ?_
  refine TC.region ?_
  refine S.q rfl rfl (Qt.move (by conv => lhs; whnf)) ?_
  refine S.opS rfl rfl (OpV.con0 Try.ent29 rfl (fun w hw => new_bad_sized n h w) ?_)
  refine S.q rfl rfl (Qt.not_f rfl) ?_
  refine S.nil ?_
  refine S.if_t rfl ?_
  refine TC.seq ?_
  refine TC.region ?_
  refine S.q rfl rfl (Qt.makeInterface Try.underlying42 (fun _ h => nomatch h) (by conv => lhs; whnf)) ?_
  refine S.q rfl rfl (Qt.assign (by conv => lhs; whnf)) ?_
  refine S.q rfl rfl (Qt.assign (by conv => lhs; whnf)) ?_
  refine S.nil ?_
  refine TC.ret ?_
  refine finQ.ret (RVs.tmp (by conv => lhs; whnf) (RVs.tmp (by conv => lhs; whnf) RVs.nil)) (Sub.nil _) ?_
  exact ⟨rfl, rfl⟩
end Go.Proofs.Ytaoicbjgkghnnaa
