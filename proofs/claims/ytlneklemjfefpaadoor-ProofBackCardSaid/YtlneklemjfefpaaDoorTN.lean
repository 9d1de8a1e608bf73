/-
  Plain words: the document's tree, a list of leaves.
-/
import Derived.Test.YtlneklemjfefpaaDoorTM
namespace Go.E
set_option linter.unusedVariables false
abbrev Ls := List (Nat × H32)
def leaf0 : Nat × H32 := (0, zeroH)
/-- The leaves, as a function. -/
def fL (E : Nat → H32) (ls : Ls) (j : Nat) : H32 := (look j ls).getD (E 0)
theorem take_all {α : Type} (ls : List α) {k : Nat} (h : ls.length ≤ k) : ls.take k = ls := List.take_of_length_le h
theorem getD_mem {α : Type} {ls : List α} {k : Nat} (d : α) (h : k < ls.length) : ls.getD k d ∈ ls := by
  have : ls.getD k d = ls[k] := by simp [List.getD, h]
  rw [this]; exact List.getElem_mem h
/-- What stands in the new list when so many leaves were gone through. -/
structure PutOk (i : Nat) (h : H32) (d0 : Bool) (ls : Ls) (k : Nat) (done : Bool) (out : Ls) : Prop where
  oth : ∀ j, j ≠ i → look j out = look j (ls.take k)
  own : look i out = if done = true ∧ d0 = false then some h else none
  mono : d0 = true → done = true
  len : out.length ≤ k + (if done = true ∧ d0 = false then 1 else 0)
  low : ∀ x ∈ out, x.1 < 18446744073709551616
theorem PutOk.zero (i : Nat) (h : H32) (d0 : Bool) (ls : Ls) : PutOk i h d0 ls 0 d0 [] := ⟨fun j _ => rfl, by cases d0 <;> rfl, id, Nat.zero_le _, fun x hx => by cases hx⟩
theorem take_one {ls : Ls} {k : Nat} (h : k < ls.length) : ls.take (k + 1) = ls.take k ++ [ls.getD k leaf0] := by
  rw [List.take_succ_eq_append_getElem h]; simp [List.getD, h]
theorem PutOk.keep {i : Nat} {h : H32} {d0 d : Bool} {ls : Ls} {k : Nat} {out : Ls} (p : PutOk i h d0 ls k d out) (hk : k < ls.length) (hne : (ls.getD k leaf0).1 ≠ i) (hl : (ls.getD k leaf0).1 < 18446744073709551616) :
    PutOk i h d0 ls (k + 1) d (out ++ [ls.getD k leaf0]) := by
  refine ⟨fun j hj => ?_, ?_, p.mono, ?_, fun x hx => ?_⟩
  · rw [take_one hk, look_append, look_append, p.oth j hj]
  · have h1 : look i [ls.getD k leaf0] = none := by rw [look_cons, if_neg (fun e => hne e.symm), look_nil]
    rw [look_append, p.own, h1, Option.or_none]
  · have := p.len; rw [List.length_append, List.length_singleton]; omega
  · rcases List.mem_append.1 hx with h1 | h1
    · exact p.low x h1
    · rw [List.mem_singleton.1 h1]; exact hl
theorem PutOk.drop {i : Nat} {h : H32} {d0 d : Bool} {ls : Ls} {k : Nat} {out : Ls} (p : PutOk i h d0 ls k d out) (hk : k < ls.length) (he : (ls.getD k leaf0).1 = i) : PutOk i h d0 ls (k + 1) d out := by
  refine ⟨fun j hj => ?_, p.own, p.mono, by have := p.len; omega, p.low⟩
  rw [take_one hk, look_append, look_cons, if_neg (fun e => hj (e.trans he)), look_nil, p.oth j hj]; simp
/-- One leaf set. -/
structure LsSet (E : Nat → H32) (ls : Ls) (i : Nat) (h : H32) (ls' : Ls) : Prop where
  val : ∀ j, fL E ls' j = updF (fL E ls) i h j
  len : ls'.length ≤ ls.length + 1
  low : ∀ x ∈ ls', x.1 < 18446744073709551616
theorem PutOk.end {E : Nat → H32} {i : Nat} {h : H32} {d0 : Bool} {ls : Ls} {k : Nat} {out : Ls} (p : PutOk i h d0 ls k true out) (hd : d0 = true → h = E 0) (hk : k = ls.length) : LsSet E ls i h out where
  val j := by
    subst hk
    unfold updF fL
    by_cases hj : j = i
    · subst hj
      rw [if_pos rfl, p.own]
      cases d0
      · simp
      · simp [hd rfl]
    · rw [if_neg hj, p.oth j hj, List.take_length]
  len := by have := p.len; subst hk; split at this <;> omega
  low := p.low
theorem len_snoc {α : Type} (a : List α) (x : α) : (a ++ [x]).length = a.length + 1 := by simp
theorem okAt_bound {height l p : Nat} (hh : height ≤ 32) (h : okAt height (l, p)) : (p + 1) * 2 ^ l ≤ 9223372036854775808 := by
  obtain ⟨h1, h2⟩ := h
  have h1' : l ≤ height := h1
  have h2' : p + 1 ≤ 2 ^ (height - l) := h2
  have h3 : (p + 1) * 2 ^ l ≤ 2 ^ (height - l) * 2 ^ l := Nat.mul_le_mul_right _ h2'
  rw [← Nat.pow_add, show height - l + l = height by omega] at h3
  have h4 : 2 ^ height ≤ 2 ^ 32 := Nat.pow_le_pow_right (by decide) hh
  omega
theorem LsSet.tree {E : Nat → H32} {height : Nat} {ls ls2 : Ls} {ms : Tm} {i : Nat} {h : H32} (p : LsSet E ls i h ls2) (ht : TreeOk E height (fL E ls) ms) (hi : i < 2 ^ height) : TreeOk E height (fL E ls2) (setK E ms i h height) := by
  have : fL E ls2 = updF (fL E ls) i h := funext p.val
  rw [this]; exact ht.set hi h
end Go.E
