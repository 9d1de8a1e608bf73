/-
  The law of keys that are a level and a place. Plain words: scripts of acts upon a tree, and what is left of them. Plain words: the document's tree, a list of leaves. Plain words: climbing from a leaf, and cutting.
-/
import Derived.Test.YtaoicbjgkghnnaaTR
import Derived.Test.YtaoicbjgkghnnaaGR
import Derived.Test.YtaoicbjgkghnnaaE2
import Derived.Laws.StructEq
import Derived.ChangeKeysEq
namespace Go.E
set_option linter.unusedVariables false
theorem valOr_look (E : Nat → H32) (ms : Tm) (a : Nat × Nat) {h : H32} (hl : look a ms = some h) : getT E ms a = h := by simp [getT, hl]
theorem valOr_none (E : Nat → H32) (ms : Tm) (a : Nat × Nat) (hl : look a ms = none) : getT E ms a = E a.1 := by simp [getT, hl]
variable {C : Ctx} {env : Env} {L : List Assn}
theorem half_pow (i j : Nat) : i / 2 ^ j / 2 ^ 1 = i / 2 ^ (j + 1) := by rw [Nat.div_div_eq_div_mul, ← Nat.pow_add]
theorem ok0 {height i : Nat} (h : i < 2 ^ height) : okAt height (0, i) := ⟨Nat.zero_le _, h⟩
end Go.E
namespace Go.E
set_option linter.unusedVariables false
structure Act where
  i : Nat
  h : H32
  d : Bool
  lt : i < 18446744073709551616
def act0 : Act := ⟨0, zeroH, false, by decide⟩
theorem getD_some {α : Type} {xs : List α} {k : Nat} (d : α) (h : k < xs.length) : xs[k]? = some (xs.getD k d) := by simp [List.getD, h]
/-- The last hash laid at each index that a tree has. -/
structure LastOk (E : Nat → H32) (height : Nat) (xs : List Act) (k : Nat) (f : Nat → H32) (last : Ms) : Prop where
  val : ∀ j, f j = (look j last).getD (E 0)
  key : ∀ j h, look j last = some h → j < 2 ^ height ∧ j ∈ (xs.take k).map (·.i)
theorem LastOk.zero {E : Nat → H32} {height : Nat} {xs : List Act} : LastOk E height xs 0 (fun _ => E 0) [] := ⟨fun j => rfl, fun j h hl => by cases hl⟩
theorem take_mem {xs : List Act} {k : Nat} (h : k < xs.length) : (xs.take (k + 1)).map (·.i) = (xs.take k).map (·.i) ++ [(xs.getD k act0).i] := by
  rw [List.take_succ_eq_append_getElem h, List.map_append]; simp [List.getD, h]
theorem LastOk.step {E : Nat → H32} {height : Nat} {xs : List Act} {k : Nat} {f : Nat → H32} {last : Ms} (h : LastOk E height xs k f last) (hk : k < xs.length) (hs : (xs.getD k act0).i < 2 ^ height) :
    LastOk E height xs (k + 1) (updF f (xs.getD k act0).i (xs.getD k act0).h) (updR (xs.getD k act0).i (xs.getD k act0).h last) where
  val j := by
    rw [look_upd, updF]
    split
    · rfl
    · exact h.val j
  key j x hl := by
    rw [take_mem hk, List.mem_append, List.mem_singleton]
    rw [look_upd] at hl
    split at hl
    · rename_i e; subst e; exact ⟨hs, .inr rfl⟩
    · obtain ⟨h1, h2⟩ := h.key j x hl; exact ⟨h1, .inl h2⟩
theorem LastOk.skip {E : Nat → H32} {height : Nat} {xs : List Act} {k : Nat} {f : Nat → H32} {last : Ms} (h : LastOk E height xs k f last) (hk : k < xs.length) : LastOk E height xs (k + 1) f last where
  val := h.val
  key j x hl := by
    rw [take_mem hk, List.mem_append]
    obtain ⟨h1, h2⟩ := h.key j x hl; exact ⟨h1, .inl h2⟩
/-- The same leaves, laid from the end. -/
def BackOk (E : Nat → H32) (xs : List Act) (c : Nat) (last : Ms) (g : Nat → H32) : Prop := ∀ j, g j = if j ∈ (xs.drop c).map (·.i) then (look j last).getD (E 0) else E 0
theorem BackOk.zero {E : Nat → H32} {xs : List Act} {last : Ms} : BackOk E xs xs.length last (fun _ => E 0) := fun j => by simp
theorem drop_mem {xs : List Act} {c : Nat} (h0 : 1 ≤ c) (h : c ≤ xs.length) : (xs.drop (c - 1)).map (·.i) = (xs.getD (c - 1) act0).i :: (xs.drop c).map (·.i) := by
  have h1 : c - 1 < xs.length := by omega
  rw [List.drop_eq_getElem_cons h1, List.map_cons, show c - 1 + 1 = c by omega]
  simp [List.getD, h1]
theorem BackOk.step {E : Nat → H32} {xs : List Act} {c : Nat} {last : Ms} {g : Nat → H32} {h : H32} (hb : BackOk E xs c last g) (h0 : 1 ≤ c) (hc : c ≤ xs.length) (hl : look (xs.getD (c - 1) act0).i last = some h) :
    BackOk E xs (c - 1) last (updF g (xs.getD (c - 1) act0).i h) := fun j => by
  rw [drop_mem h0 hc, updF]
  generalize (xs.getD (c - 1) act0).i = q at hl ⊢
  by_cases e : j = q
  · subst e; simp [hl]
  · rw [if_neg e, hb j]; simp only [List.mem_cons, e, false_or]
theorem BackOk.skip {E : Nat → H32} {xs : List Act} {c : Nat} {last : Ms} {g : Nat → H32} (hb : BackOk E xs c last g) (h0 : 1 ≤ c) (hc : c ≤ xs.length) (hl : look (xs.getD (c - 1) act0).i last = none) :
    BackOk E xs (c - 1) last g := fun j => by
  rw [drop_mem h0 hc]
  generalize (xs.getD (c - 1) act0).i = q at hl ⊢
  by_cases e : j = q
  · subst e; rw [hb, hl]; simp
  · rw [hb j]; simp only [List.mem_cons, e, false_or]
theorem BackOk.done {E : Nat → H32} {height : Nat} {xs : List Act} {k : Nat} {f g : Nat → H32} {last : Ms} (hb : BackOk E xs 0 last g) (h : LastOk E height xs k f last) : g = f := funext fun j => by
  rw [hb j, h.val j]
  split
  · rfl
  · rename_i hn
    cases hl : look j last with
    | none => rfl
    | some x =>
      refine absurd ?_ hn
      obtain ⟨_, h2⟩ := h.key j x hl
      rw [List.drop_zero]
      obtain ⟨a, ha, rfl⟩ := List.mem_map.1 h2
      exact List.mem_map.2 ⟨a, List.mem_of_mem_take ha, rfl⟩
variable {C : Ctx} {env : Env} {L : List Assn}
end Go.E
namespace Go.E
set_option linter.unusedVariables false
abbrev Ls := List (Nat × H32)
def leaf0 : Nat × H32 := (0, zeroH)
/-- The leaves, as a function. -/
def fL (E : Nat → H32) (ls : Ls) (j : Nat) : H32 := (look j ls).getD (E 0)
theorem look_filter (q : Nat → Bool) (j : Nat) : ∀ ls : Ls, look j (ls.filter fun x => q x.1) = if q j = true then look j ls else none
  | [] => by simp [look_nil]
  | x :: ls => by
    rw [List.filter_cons]
    by_cases hq : q x.1 = true
    · rw [if_pos hq, look_cons, look_cons, look_filter q j ls]
      by_cases hj : j = x.1
      · subst hj; simp [hq]
      · simp [hj]
    · rw [if_neg hq, look_cons, look_filter q j ls]
      by_cases hj : j = x.1
      · subst hj; simp [hq]
      · simp [hj]
theorem take_all {α : Type} (ls : List α) {k : Nat} (h : ls.length ≤ k) : ls.take k = ls := List.take_of_length_le h
theorem getD_mem {α : Type} {ls : List α} {k : Nat} (d : α) (h : k < ls.length) : ls.getD k d ∈ ls := by
  have : ls.getD k d = ls[k] := by simp [List.getD, h]
  rw [this]; exact List.getElem_mem h
/-- What stands in the new list when so many leaves were gone through. -/
structure PutOk (i : Nat) (h : H32) (d0 : Bool) (ls : Ls) (k : Nat) (done : Bool) (out : Ls) : Prop where
  oth : ∀ j, j ≠ i → look j out = look j (ls.take k)
  own : look i out = if done = true ∧ d0 = false then some h else none
  mono : d0 = true → done = true
  len : out.length ≤ k + (if done = true ∧ d0 = false then 1 else 0)
  low : ∀ x ∈ out, x.1 < 18446744073709551616
theorem PutOk.zero (i : Nat) (h : H32) (d0 : Bool) (ls : Ls) : PutOk i h d0 ls 0 d0 [] := ⟨fun j _ => rfl, by cases d0 <;> rfl, id, Nat.zero_le _, fun x hx => by cases hx⟩
theorem take_one {ls : Ls} {k : Nat} (h : k < ls.length) : ls.take (k + 1) = ls.take k ++ [ls.getD k leaf0] := by
  rw [List.take_succ_eq_append_getElem h]; simp [List.getD, h]
theorem PutOk.keep {i : Nat} {h : H32} {d0 d : Bool} {ls : Ls} {k : Nat} {out : Ls} (p : PutOk i h d0 ls k d out) (hk : k < ls.length) (hne : (ls.getD k leaf0).1 ≠ i) (hl : (ls.getD k leaf0).1 < 18446744073709551616) :
    PutOk i h d0 ls (k + 1) d (out ++ [ls.getD k leaf0]) := by
  refine ⟨fun j hj => ?_, ?_, p.mono, ?_, fun x hx => ?_⟩
  · rw [take_one hk, look_append, look_append, p.oth j hj]
  · have h1 : look i [ls.getD k leaf0] = none := by rw [look_cons, if_neg (fun e => hne e.symm), look_nil]
    rw [look_append, p.own, h1, Option.or_none]
  · have := p.len; rw [List.length_append, List.length_singleton]; omega
  · rcases List.mem_append.1 hx with h1 | h1
    · exact p.low x h1
    · rw [List.mem_singleton.1 h1]; exact hl
theorem PutOk.drop {i : Nat} {h : H32} {d0 d : Bool} {ls : Ls} {k : Nat} {out : Ls} (p : PutOk i h d0 ls k d out) (hk : k < ls.length) (he : (ls.getD k leaf0).1 = i) : PutOk i h d0 ls (k + 1) d out := by
  refine ⟨fun j hj => ?_, p.own, p.mono, by have := p.len; omega, p.low⟩
  rw [take_one hk, look_append, look_cons, if_neg (fun e => hj (e.trans he)), look_nil, p.oth j hj]; simp
/-- One leaf set. -/
structure LsSet (E : Nat → H32) (ls : Ls) (i : Nat) (h : H32) (ls' : Ls) : Prop where
  val : ∀ j, fL E ls' j = updF (fL E ls) i h j
  len : ls'.length ≤ ls.length + 1
  low : ∀ x ∈ ls', x.1 < 18446744073709551616
theorem PutOk.end {E : Nat → H32} {i : Nat} {h : H32} {d0 : Bool} {ls : Ls} {k : Nat} {out : Ls} (p : PutOk i h d0 ls k true out) (hd : d0 = true → h = E 0) (hk : k = ls.length) : LsSet E ls i h out where
  val j := by
    subst hk
    unfold updF fL
    by_cases hj : j = i
    · subst hj
      rw [if_pos rfl, p.own]
      cases d0
      · simp
      · simp [hd rfl]
    · rw [if_neg hj, p.oth j hj, List.take_length]
  len := by have := p.len; subst hk; split at this <;> omega
  low := p.low
theorem LsSet.tree {E : Nat → H32} {height : Nat} {ls ls2 : Ls} {ms : Tm} {i : Nat} {h : H32} (p : LsSet E ls i h ls2) (ht : TreeOk E height (fL E ls) ms) (hi : i < 2 ^ height) : TreeOk E height (fL E ls2) (setK E ms i h height) := by
  have : fL E ls2 = updF (fL E ls) i h := funext p.val
  rw [this]; exact ht.set hi h
end Go.E
namespace Go.E
set_option linter.unusedVariables false
def fitsP (i n : Nat) : Prop := n ≤ 32 ∧ i / 2 ^ n = 0
instance (i n : Nat) : Decidable (fitsP i n) := inferInstanceAs (Decidable (_ ∧ _))
theorem half_step (i k : Nat) : i / 2 ^ k / 2 = i / 2 ^ (k + 1) := by rw [← half_pow, Nat.pow_one]
variable {C : Ctx} {Q : EQ} {env : Env} {ops : Array Oper}
end Go.E
