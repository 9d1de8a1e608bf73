/-
  Plain words and laws for the volume's statements: what a volume's calls do to a list of pairs.
-/
import Derived.Test.YtlneklemjfefpaaDoorMM
namespace Go.E
abbrev Ms := List (Nat × H32)
def encU (x : Nat) : Value := .int .u64 (x : Int)
theorem encU_inj {a b : Nat} (h : encU a = encU b) : a = b := by
  injection h with _ h; omega
def spanned (first : Nat) (many : Int) (n : Nat) : Nat :=
  if 256 < many then 3 else if many < 1 then 2 else if n ≤ first ∨ n - first < many.toNat then 1 else 0
theorem spanned_1 {first n : Nat} {many : Int} (h1 : ¬ 256 < many) (h2 : ¬ many < 1) (h : n ≤ first ∨ n - first < many.toNat) : spanned first many n = 1 := by
  unfold spanned; rw [if_neg h1, if_neg h2, if_pos h]
theorem spanned_0 {first n : Nat} {many : Int} (h1 : ¬ 256 < many) (h2 : ¬ many < 1) (h3 : ¬ n ≤ first) (h4 : ¬ n - first < many.toNat) : spanned first many n = 0 := by
  unfold spanned; rw [if_neg h1, if_neg h2, if_neg (by omega)]
/-- The blocks laid. -/
def lay (ms : Ms) (xs : List Nat) (bs : List H32) : Ms := (xs.zip bs).foldl (fun m p => updR p.1 p.2 m) ms
theorem lay_take (ms : Ms) (xs : List Nat) (bs : List H32) (k : Nat) (h1 : k < xs.length) (h2 : k < bs.length) :
    lay ms (xs.take (k + 1)) (bs.take (k + 1)) = updR (xs.getD k 0) (bs.getD k zeroH) (lay ms (xs.take k) (bs.take k)) := by
  unfold lay
  have hz : (xs.take (k + 1)).zip (bs.take (k + 1)) = (xs.take k).zip (bs.take k) ++ [(xs.getD k 0, bs.getD k zeroH)] := by
    rw [List.take_succ_eq_append_getElem h1, List.take_succ_eq_append_getElem h2, List.zip_append (by simp; omega)]
    simp [List.getD, h1, h2]
  rw [hz, List.foldl_append]
  rfl
theorem lay_all (ms : Ms) (xs : List Nat) (bs : List H32) (k : Nat) (h1 : xs.length ≤ k) (h2 : bs.length ≤ k) : lay ms (xs.take k) (bs.take k) = lay ms xs bs := by
  rw [List.take_of_length_le h1, List.take_of_length_le h2]
def cut (ms : Ms) (xs : List Nat) : Ms := xs.foldl (fun m x => delR x m) ms
noncomputable def writeM (n : Nat) (ms : Ms) (xs : List Nat) (bs : List H32) : Nat × Ms :=

  if asked xs n ≠ 0 then (asked xs n, ms) else if xs.length ≠ bs.length then (2, ms) else (0, lay ms xs bs)
theorem writeM_bad {n : Nat} {ms : Ms} {xs : List Nat} {bs : List H32} (h : asked xs n ≠ 0) : writeM n ms xs bs = (asked xs n, ms) := by simp [writeM, h]
theorem writeM_form {n : Nat} {ms : Ms} {xs : List Nat} {bs : List H32} (h : asked xs n = 0) (h2 : xs.length ≠ bs.length) : writeM n ms xs bs = (2, ms) := by simp [writeM, h, h2]
theorem writeM_ok {n : Nat} {ms : Ms} {xs : List Nat} {bs : List H32} (h : asked xs n = 0) (h2 : xs.length = bs.length) : writeM n ms xs bs = (0, lay ms xs bs) := by simp [writeM, h, h2]
theorem hcs_at {l : List H32} {i k : Nat} (h : i < l.length) (hk : k = i * 32) : ∀ j v, (hvl (l.getD i zeroH))[j]? = some v → (hcs l)[k + j]? = some v := by
  subst hk
  exact hcs_get l i _ (by simp [List.getD, h])
end Go.E
