/-
  Plain words: the document's tree, a list of leaves.
-/
import Derived.Test.YtlneklemjfefpaaDoorTM
namespace Go.E
set_option linter.unusedVariables false
abbrev Ls := List (Nat × H32)
def leafL (x : Nat × H32) : List Value := .int .u64 (x.1 : Int) :: hvl x.2
theorem leafL_length (x : Nat × H32) : (leafL x).length = 33 := by simp [leafL, hvl_length]
theorem leafL_len (ls : Ls) : (ls.flatMap leafL).length = ls.length * 33 := flat_len leafL_length ls
def leaf0 : Nat × H32 := (0, zeroH)
theorem leaf_at {ls : Ls} {k : Nat} (h : k < ls.length) : ∀ j v, (leafL (ls.getD k leaf0))[j]? = some v → (ls.flatMap leafL)[k * 33 + j]? = some v :=
  flat_at leafL_length ls k _ (getD_some leaf0 h)
theorem leafL_one (x : Nat × H32) : ∀ u ∈ leafL x, u.oneCell' = true := by
  intro u hu
  rcases List.mem_cons.1 hu with rfl | hu
  · rfl
  · exact List.all_eq_true.1 (hvl_one x.2) u hu
theorem leafL_vl (x : Nat × H32) : (vl (.agg (leafL x).toArray)).length = 33 := by rw [vl_agg, leafL_length]
theorem leafL_hash (x : Nat × H32) : ∀ j v, (hvl x.2)[j]? = some v → (leafL x)[1 + j]? = some v := fun j v h => by
  rw [leafL, Nat.add_comm, List.getElem?_cons_succ]; exact h
/-- The leaves, as a function. -/
def fL (E : Nat → H32) (ls : Ls) (j : Nat) : H32 := (look j ls).getD (E 0)
def cutL (ls : Ls) (l p : Nat) : Ls := ls.filter fun x => x.1 / 2 ^ l == p
theorem cutL_mem {ls : Ls} {l p : Nat} : ∀ x ∈ cutL ls l p, x.1 / 2 ^ l = p := fun x hx => by
  have := (List.mem_filter.1 hx).2; simpa using this
theorem look_filter (q : Nat → Bool) (j : Nat) : ∀ ls : Ls, look j (ls.filter fun x => q x.1) = if q j = true then look j ls else none
  | [] => by simp [look_nil]
  | x :: ls => by
    rw [List.filter_cons]
    by_cases hq : q x.1 = true
    · rw [if_pos hq, look_cons, look_cons, look_filter q j ls]
      by_cases hj : j = x.1
      · subst hj; simp [hq]
      · simp [hj]
    · rw [if_neg hq, look_cons, look_filter q j ls]
      by_cases hj : j = x.1
      · subst hj; simp [hq]
      · simp [hj]
theorem look_cut (ls : Ls) {l p j : Nat} (h : j / 2 ^ l = p) : look j (cutL ls l p) = look j ls := by
  rw [cutL, look_filter (fun n => n / 2 ^ l == p) j ls, if_pos (by simpa using h)]
theorem node_cut (E : Nat → H32) (ls : Ls) (l p : Nat) : nodeH (fL E (cutL ls l p)) l p = nodeH (fL E ls) l p :=
  nodeH_congr l p fun j hj => by rw [fL, look_cut ls hj]; rfl
theorem cut_step (ls : Ls) {k : Nat} (l p : Nat) (h : k < ls.length) : cutL (ls.take (k + 1)) l p = if (ls.getD k leaf0).1 / 2 ^ l = p then cutL (ls.take k) l p ++ [ls.getD k leaf0] else cutL (ls.take k) l p := by
  have e : ls.take (k + 1) = ls.take k ++ [ls.getD k leaf0] := by
    rw [List.take_succ_eq_append_getElem h]; simp [List.getD, h]
  rw [e, cutL, List.filter_append]
  generalize ls.getD k leaf0 = x
  split
  · rename_i hp; simp [cutL, hp]
  · rename_i hp; simp [cutL, hp]
/-- The other half. -/
def restL (ls : Ls) (l p : Nat) : Ls := ls.filter fun x => !(x.1 / 2 ^ l == p)
theorem rest_step (ls : Ls) {k : Nat} (l p : Nat) (h : k < ls.length) : restL (ls.take (k + 1)) l p = if (ls.getD k leaf0).1 / 2 ^ l = p then restL (ls.take k) l p else restL (ls.take k) l p ++ [ls.getD k leaf0] := by
  have e : ls.take (k + 1) = ls.take k ++ [ls.getD k leaf0] := by
    rw [List.take_succ_eq_append_getElem h]; simp [List.getD, h]
  rw [e, restL, List.filter_append]
  generalize ls.getD k leaf0 = x
  split
  · rename_i hp; simp [restL, hp]
  · rename_i hp; simp [restL, hp]
theorem rest_cut {ls : Ls} {l p : Nat} (h : ∀ x ∈ ls, x.1 / 2 ^ (l + 1) = p) : restL ls l (2 * p) = cutL ls l (2 * p + 1) := by
  unfold restL cutL
  refine List.filter_congr fun x hx => ?_
  have h1 := h x hx
  rw [← half_pow, Nat.pow_one] at h1
  generalize x.1 / 2 ^ l = n at h1 ⊢
  by_cases e : n = 2 * p
  · have : n ≠ 2 * p + 1 := by omega
    simp [e]
  · have : n = 2 * p + 1 := by omega
    simp [this]
theorem node_nil {E : Nat → H32} (hE : ∀ h, E (h + 1) = joinH (h + 1) (E h) (E h)) (l p : Nat) : nodeH (fL E []) l p = E l := nodeH_empty hE l p fun _ _ => rfl
theorem node_leaf {E : Nat → H32} {ls : Ls} {p : Nat} (hne : 0 < ls.length) (h : ∀ x ∈ ls, x.1 / 2 ^ 0 = p) : nodeH (fL E ls) 0 p = (ls.getD 0 leaf0).2 := by
  cases ls with
  | nil => simp at hne
  | cons x ls =>
    have hx := h x (List.mem_cons_self ..)
    rw [Nat.pow_zero, Nat.div_one] at hx
    simp [nodeH, fL, look_cons, hx]
theorem node_parts {E : Nat → H32} {ls : Ls} {l p : Nat} (h : ∀ x ∈ ls, x.1 / 2 ^ (l + 1) = p) : joinH (l + 1) (nodeH (fL E (cutL ls l (2 * p))) l (2 * p)) (nodeH (fL E (restL ls l (2 * p))) l (2 * p + 1)) = nodeH (fL E ls) (l + 1) p := by
  rw [rest_cut h, node_cut, node_cut]; rfl
theorem take_all {α : Type} (ls : List α) {k : Nat} (h : ls.length ≤ k) : ls.take k = ls := List.take_of_length_le h
theorem cut_take_len (ls : Ls) (k l p : Nat) (h : k ≤ ls.length) : (cutL (ls.take k) l p).length ≤ k := by
  refine Nat.le_trans (List.length_filter_le ..) ?_
  rw [List.length_take]; omega
theorem rest_take_len (ls : Ls) (k l p : Nat) (h : k ≤ ls.length) : (restL (ls.take k) l p).length ≤ k := by
  refine Nat.le_trans (List.length_filter_le ..) ?_
  rw [List.length_take]; omega
theorem getD_mem {α : Type} {ls : List α} {k : Nat} (d : α) (h : k < ls.length) : ls.getD k d ∈ ls := by
  have : ls.getD k d = ls[k] := by simp [List.getD, h]
  rw [this]; exact List.getElem_mem h
/-- What stands in the new list when so many leaves were gone through. -/
structure PutOk (i : Nat) (h : H32) (d0 : Bool) (ls : Ls) (k : Nat) (done : Bool) (out : Ls) : Prop where
  oth : ∀ j, j ≠ i → look j out = look j (ls.take k)
  own : look i out = if done = true ∧ d0 = false then some h else none
  mono : d0 = true → done = true
  len : out.length ≤ k + (if done = true ∧ d0 = false then 1 else 0)
  low : ∀ x ∈ out, x.1 < 18446744073709551616
theorem PutOk.zero (i : Nat) (h : H32) (d0 : Bool) (ls : Ls) : PutOk i h d0 ls 0 d0 [] := ⟨fun j _ => rfl, by cases d0 <;> rfl, id, Nat.zero_le _, fun x hx => by cases hx⟩
theorem PutOk.ins {i : Nat} {h : H32} {d0 : Bool} {ls : Ls} {k : Nat} {out : Ls} (p : PutOk i h d0 ls k false out) (hi : i < 18446744073709551616) : PutOk i h d0 ls k true (out ++ [(i, h)]) := by
  have hd : d0 = false := by cases d0; rfl; exact absurd (p.mono rfl) (by decide)
  subst hd
  refine ⟨fun j hj => ?_, ?_, fun _ => rfl, ?_, fun x hx => ?_⟩
  · rw [look_append, look_cons, if_neg hj, look_nil, p.oth j hj]; simp
  · rw [look_append, p.own, look_cons]; simp
  · have := p.len; simp at this ⊢; omega
  · rcases List.mem_append.1 hx with h1 | h1
    · exact p.low x h1
    · rw [List.mem_singleton.1 h1]; exact hi
theorem take_one {ls : Ls} {k : Nat} (h : k < ls.length) : ls.take (k + 1) = ls.take k ++ [ls.getD k leaf0] := by
  rw [List.take_succ_eq_append_getElem h]; simp [List.getD, h]
theorem PutOk.keep {i : Nat} {h : H32} {d0 d : Bool} {ls : Ls} {k : Nat} {out : Ls} (p : PutOk i h d0 ls k d out) (hk : k < ls.length) (hne : (ls.getD k leaf0).1 ≠ i) (hl : (ls.getD k leaf0).1 < 18446744073709551616) :
    PutOk i h d0 ls (k + 1) d (out ++ [ls.getD k leaf0]) := by
  refine ⟨fun j hj => ?_, ?_, p.mono, ?_, fun x hx => ?_⟩
  · rw [take_one hk, look_append, look_append, p.oth j hj]
  · have h1 : look i [ls.getD k leaf0] = none := by rw [look_cons, if_neg (fun e => hne e.symm), look_nil]
    rw [look_append, p.own, h1, Option.or_none]
  · have := p.len; rw [List.length_append, List.length_singleton]; omega
  · rcases List.mem_append.1 hx with h1 | h1
    · exact p.low x h1
    · rw [List.mem_singleton.1 h1]; exact hl
theorem PutOk.drop {i : Nat} {h : H32} {d0 d : Bool} {ls : Ls} {k : Nat} {out : Ls} (p : PutOk i h d0 ls k d out) (hk : k < ls.length) (he : (ls.getD k leaf0).1 = i) : PutOk i h d0 ls (k + 1) d out := by
  refine ⟨fun j hj => ?_, p.own, p.mono, by have := p.len; omega, p.low⟩
  rw [take_one hk, look_append, look_cons, if_neg (fun e => hj (e.trans he)), look_nil, p.oth j hj]; simp
/-- One leaf set. -/
structure LsSet (E : Nat → H32) (ls : Ls) (i : Nat) (h : H32) (ls' : Ls) : Prop where
  val : ∀ j, fL E ls' j = updF (fL E ls) i h j
  len : ls'.length ≤ ls.length + 1
  low : ∀ x ∈ ls', x.1 < 18446744073709551616
theorem PutOk.end {E : Nat → H32} {i : Nat} {h : H32} {d0 : Bool} {ls : Ls} {k : Nat} {out : Ls} (p : PutOk i h d0 ls k true out) (hd : d0 = true → h = E 0) (hk : k = ls.length) : LsSet E ls i h out where
  val j := by
    subst hk
    unfold updF fL
    by_cases hj : j = i
    · subst hj
      rw [if_pos rfl, p.own]
      cases d0
      · simp
      · simp [hd rfl]
    · rw [if_neg hj, p.oth j hj, List.take_length]
  len := by have := p.len; subst hk; split at this <;> omega
  low := p.low
theorem len_snoc {α : Type} (a : List α) (x : α) : (a ++ [x]).length = a.length + 1 := by simp
theorem flat_snoc {α β : Type} (f : α → List β) (a : List α) (x : α) : (a ++ [x]).flatMap f = a.flatMap f ++ f x := by simp
theorem okAt_bound {height l p : Nat} (hh : height ≤ 32) (h : okAt height (l, p)) : (p + 1) * 2 ^ l ≤ 9223372036854775808 := by
  obtain ⟨h1, h2⟩ := h
  have h1' : l ≤ height := h1
  have h2' : p + 1 ≤ 2 ^ (height - l) := h2
  have h3 : (p + 1) * 2 ^ l ≤ 2 ^ (height - l) * 2 ^ l := Nat.mul_le_mul_right _ h2'
  rw [← Nat.pow_add, show height - l + l = height by omega] at h3
  have h4 : 2 ^ height ≤ 2 ^ 32 := Nat.pow_le_pow_right (by decide) hh
  omega
theorem bound_half {l p : Nat} (h : (p + 1) * 2 ^ (l + 1) ≤ 9223372036854775808) : p < 9223372036854775808 ∧ (2 * p + 1) * 2 ^ l ≤ 9223372036854775808 ∧ (2 * p + 1 + 1) * 2 ^ l ≤ 9223372036854775808 := by
  have e : (2 * p + 1 + 1) * 2 ^ l = (p + 1) * 2 ^ (l + 1) := by rw [Nat.pow_succ, show 2 * p + 1 + 1 = (p + 1) * 2 by omega, Nat.mul_assoc, Nat.mul_comm 2]
  have h1 : p + 1 ≤ (p + 1) * 2 ^ (l + 1) := Nat.le_mul_of_pos_right _ (Nat.two_pow_pos _)
  refine ⟨by omega, ?_, by rw [e]; exact h⟩
  refine Nat.le_trans (Nat.mul_le_mul_right _ (by omega : 2 * p + 1 ≤ 2 * p + 1 + 1)) (by rw [e]; exact h)
theorem LsSet.tree {E : Nat → H32} {height : Nat} {ls ls2 : Ls} {ms : Tm} {i : Nat} {h : H32} (p : LsSet E ls i h ls2) (ht : TreeOk E height (fL E ls) ms) (hi : i < 2 ^ height) : TreeOk E height (fL E ls2) (setK E ms i h height) := by
  have : fL E ls2 = updF (fL E ls) i h := funext p.val
  rw [this]; exact ht.set hi h
end Go.E
