/-
  Plain laws for trimming and for spans; the copy of a map.
-/
import Derived.Test.YtaoicbjgkghnnaaM2
import Derived.Test.YtaoicbjgkghnnaaE2
namespace Go.E
theorem cut_take (ms : Ms) (xs : List Nat) (k : Nat) (h : k < xs.length) : cut ms (xs.take (k + 1)) = delR (xs.getD k 0) (cut ms (xs.take k)) := by
  unfold cut
  rw [List.take_succ_eq_append_getElem h, List.foldl_append]
  simp [List.getD, h]
theorem cut_all (ms : Ms) (xs : List Nat) (k : Nat) (h : xs.length ≤ k) : cut ms (xs.take k) = cut ms xs := by rw [List.take_of_length_le h]
noncomputable def trimM (n : Nat) (ms : Ms) (xs : List Nat) : Nat × Ms := if asked xs n ≠ 0 then (asked xs n, ms) else (0, cut ms xs)
theorem trimM_bad {n : Nat} {ms : Ms} {xs : List Nat} (h : asked xs n ≠ 0) : trimM n ms xs = (asked xs n, ms) := by unfold trimM; rw [if_pos h]
theorem trimM_ok {n : Nat} {ms : Ms} {xs : List Nat} (h : asked xs n = 0) : trimM n ms xs = (0, cut ms xs) := by unfold trimM; rw [if_neg (fun f => f h)]
theorem spanned_facts {first n : Nat} {many : Int} (h : spanned first many n = 0) : 1 ≤ many ∧ many ≤ 256 ∧ first < n ∧ many.toNat ≤ n - first := by
  unfold spanned at h
  split at h
  · cases h
  · split at h
    · cases h
    · split at h
      · cases h
      · omega
def spanL (ms : Ms) (first k : Nat) : List H32 := (List.range k).map fun i => getM ms (first + i)
theorem spanL_step (ms : Ms) (first k : Nat) : hcs (spanL ms first k) ++ hvl (getM ms (first + k)) = hcs (spanL ms first (k + 1)) := by
  unfold spanL
  rw [List.range_succ, List.map_append, hcs_append]
  simp [hcs]
theorem spanL_length (ms : Ms) (first k : Nat) : (spanL ms first k).length = k := by simp [spanL]
def spanM (n : Nat) (ms : Ms) (first : Nat) (many : Int) : Nat × List H32 := if spanned first many n ≠ 0 then (spanned first many n, []) else (0, spanL ms first many.toNat)
theorem spanM_bad {n : Nat} {ms : Ms} {first : Nat} {many : Int} (h : spanned first many n ≠ 0) : spanM n ms first many = (spanned first many n, []) := by unfold spanM; rw [if_pos h]
theorem spanM_ok {n : Nat} {ms : Ms} {first : Nat} {many : Int} (h : spanned first many n = 0) : spanM n ms first many = (0, spanL ms first many.toNat) := by unfold spanM; rw [if_neg (fun f => f h)]
end Go.E
namespace Go.E
/-- What one act does to a volume: the error's number, the blocks read, the size, the pairs. -/
noncomputable def doM (n : Nat) (ms : Ms) (kd : Nat) (xs : List Nat) (bs : List H32) (f : Nat) (q : Int) : Nat × List H32 × Nat × Ms :=
  if kd = 0 then ((writeM n ms xs bs).1, [], n, (writeM n ms xs bs).2)
  else if kd = 1 then ((trimM n ms xs).1, [], n, (trimM n ms xs).2)
  else if kd = 2 then ((readM n ms xs).1, (readM n ms xs).2, n, ms)
  else if kd = 3 then ((spanM n ms f q).1, (spanM n ms f q).2, n, ms)
  else ((resizeM n ms f).1, [], (resizeM n ms f).2.1, (resizeM n ms f).2.2)
section
variable {n : Nat} {ms : Ms} {kd : Nat} {xs : List Nat} {bs : List H32} {f : Nat} {q : Int}
theorem doM_0 (h : kd = 0) : doM n ms kd xs bs f q = ((writeM n ms xs bs).1, [], n, (writeM n ms xs bs).2) := by unfold doM; rw [if_pos h]
theorem doM_1 (h0 : ¬ kd = 0) (h : kd = 1) : doM n ms kd xs bs f q = ((trimM n ms xs).1, [], n, (trimM n ms xs).2) := by unfold doM; rw [if_neg h0, if_pos h]
theorem doM_2 (h0 : ¬ kd = 0) (h1 : ¬ kd = 1) (h : kd = 2) : doM n ms kd xs bs f q = ((readM n ms xs).1, (readM n ms xs).2, n, ms) := by unfold doM; rw [if_neg h0, if_neg h1, if_pos h]
theorem doM_3 (h0 : ¬ kd = 0) (h1 : ¬ kd = 1) (h2 : ¬ kd = 2) (h : kd = 3) : doM n ms kd xs bs f q = ((spanM n ms f q).1, (spanM n ms f q).2, n, ms) := by unfold doM; rw [if_neg h0, if_neg h1, if_neg h2, if_pos h]
theorem doM_4 (h0 : ¬ kd = 0) (h1 : ¬ kd = 1) (h2 : ¬ kd = 2) (h : ¬ kd = 3) : doM n ms kd xs bs f q = ((resizeM n ms f).1, [], (resizeM n ms f).2.1, (resizeM n ms f).2.2) := by unfold doM; rw [if_neg h0, if_neg h1, if_neg h2, if_neg h]
end
end Go.E
namespace Go.E
theorem hs_eq {as bs : List H32} (hl : as.length = bs.length) (h : ∀ i, i < as.length → as.getD i zeroH = bs.getD i zeroH) : as = bs := by
  refine List.ext_getElem hl fun i h1 h2 => ?_
  have := h i h1
  simpa [List.getD, h1, h2] using this
theorem hs_ne {as bs : List H32} {k : Nat} (h : as.getD k zeroH ≠ bs.getD k zeroH) : as ≠ bs := fun e => h (by rw [e])
end Go.E
