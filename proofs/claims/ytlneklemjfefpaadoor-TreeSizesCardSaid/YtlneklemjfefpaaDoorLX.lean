/-
  Plain words: leaves that come from acts alone; leaves that are dropped; the document's list for another number of blocks.
-/
import Derived.Test.YtlneklemjfefpaaDoorP3
namespace Go.E
set_option linter.unusedVariables false
/-- Every leaf was laid by one of the first k acts. -/
def InS (E : Nat → H32) (xs : List Act) (k : Nat) (f : Nat → H32) : Prop := ∀ p, f p ≠ E 0 → p ∈ (xs.take k).map (·.i)
theorem InS.zero (E : Nat → H32) (xs : List Act) : InS E xs 0 (fun _ => E 0) := fun p h => absurd rfl h
theorem InS.skip {E : Nat → H32} {xs : List Act} {k : Nat} {f : Nat → H32} (h : InS E xs k f) (hk : k < xs.length) : InS E xs (k + 1) f := fun p hp => by
  rw [take_mem hk]; exact List.mem_append.2 (.inl (h p hp))
theorem InS.set {E : Nat → H32} {xs : List Act} {k : Nat} {f : Nat → H32} (h : InS E xs k f) (hk : k < xs.length) (x : H32) : InS E xs (k + 1) (updF f (xs.getD k act0).i x) := fun p hp => by
  rw [take_mem hk]
  unfold updF at hp
  by_cases e : p = (xs.getD k act0).i
  · exact List.mem_append.2 (.inr (List.mem_singleton.2 e))
  · rw [if_neg e] at hp; exact List.mem_append.2 (.inl (h p hp))
theorem InS.congr {E : Nat → H32} {xs : List Act} {k : Nat} {f g : Nat → H32} (h : InS E xs k f) (e : ∀ p, g p = f p) : InS E xs k g := fun p hp => h p (by rw [← e]; exact hp)
/-- Where the first k acts' leaves were dropped. -/
structure DropOk (E : Nat → H32) (height : Nat) (f : Nat → H32) (xs : List Act) (k : Nat) (f' : Nat → H32) : Prop where
  off : ∀ p, p < 2 ^ height → p ∈ (xs.take k).map (·.i) → f' p = E 0
  only : ∀ p, f' p ≠ E 0 → f p ≠ E 0
theorem DropOk.zero (E : Nat → H32) (height : Nat) (f : Nat → H32) (xs : List Act) : DropOk E height f xs 0 f := ⟨fun p _ h => by simp at h, fun _ h => h⟩
theorem DropOk.skip {E : Nat → H32} {height : Nat} {f : Nat → H32} {xs : List Act} {k : Nat} {f' : Nat → H32} (h : DropOk E height f xs k f') (hk : k < xs.length) (hs : ¬ (xs.getD k act0).i < 2 ^ height) : DropOk E height f xs (k + 1) f' :=
  ⟨fun p hp hm => by
    rw [take_mem hk] at hm
    rcases List.mem_append.1 hm with hm | hm
    · exact h.off p hp hm
    · rw [List.mem_singleton.1 hm] at hp; exact absurd hp hs, h.only⟩
theorem DropOk.drop {E : Nat → H32} {height : Nat} {f : Nat → H32} {xs : List Act} {k : Nat} {f' : Nat → H32} (h : DropOk E height f xs k f') (hk : k < xs.length) : DropOk E height f xs (k + 1) (updF f' (xs.getD k act0).i (E 0)) :=
  ⟨fun p hp hm => by
    rw [take_mem hk] at hm
    unfold updF
    by_cases e : p = (xs.getD k act0).i
    · rw [if_pos e]
    · rw [if_neg e]
      rcases List.mem_append.1 hm with hm | hm
      · exact h.off p hp hm
      · exact absurd (List.mem_singleton.1 hm) e,
   fun p hp => by
    unfold updF at hp
    by_cases e : p = (xs.getD k act0).i
    · rw [if_pos e] at hp; exact absurd rfl hp
    · rw [if_neg e] at hp; exact h.only p hp⟩
theorem DropOk.all {E : Nat → H32} {height : Nat} {f : Nat → H32} {xs : List Act} {k : Nat} {f' : Nat → H32} {ms : Tm} (h : DropOk E height f xs k f') (hk : xs.length ≤ k) (hi : InS E xs xs.length f) (ht : TreeOk E height f' ms) : lvT ms = [] := by
  refine List.eq_nil_iff_forall_not_mem.2 fun p hp => ?_
  obtain ⟨h1, h2⟩ := ht.lv.1 hp
  have h3 := hi p (h.only p h2)
  rw [List.take_length] at h3
  exact h2 (h.off p h1 (by rw [take_all xs hk]; exact h3))
theorem lowL_step (b : Nat) (ls : Ls) {k : Nat} (h : k < ls.length) : loL b (ls.take (k + 1)) = if (ls.getD k leaf0).1 < b then loL b (ls.take k) ++ [ls.getD k leaf0] else loL b (ls.take k) := by
  rw [take_one h]; unfold loL; rw [List.filter_append]
  generalize ls.getD k leaf0 = x
  by_cases hb : x.1 < b <;> simp [hb]
theorem lowL_len (b : Nat) (ls : Ls) (k : Nat) (h : k ≤ ls.length) : (loL b (ls.take k)).length ≤ k := by
  refine Nat.le_trans (List.length_filter_le ..) ?_
  rw [List.length_take]; omega
theorem LsOk.low2 {E : Nat → H32} {height : Nat} {ls : Ls} (h : LsOk E height ls) {b h2 : Nat} (hb : b ≤ 2 ^ h2) : LsOk E h2 (loL b ls) where
  rise := h.rise.sublist List.filter_sublist
  ne x hx := h.ne x (List.mem_filter.1 hx).1
  low x hx := by have := (List.mem_filter.1 hx).2; have : x.1 < b := by simpa using this
                 omega
theorem fL_low {E : Nat → H32} {height : Nat} {ls : Ls} {ms : Tm} (ht : TreeOk E height (fL E ls) ms) (ho : LsOk E height ls) (b : Nat) : cutF E (fL E ls) (lvT ms) b = fL E (loL b ls) := funext fun p => by
  have e : loL b ls = ls.filter fun x => decide (x.1 < b) := rfl
  unfold cutF
  rw [fL, fL, e, look_filter (fun n => decide (n < b)) p ls, ht.leaves ho]
  by_cases hb : p < b
  · by_cases hm : p ∈ ls.map (·.1)
    · rw [if_pos ⟨hm, hb⟩, if_pos (decide_eq_true hb)]
    · rw [if_neg (fun k => hm k.1), if_pos (decide_eq_true hb), look_none.2 hm]; rfl
  · rw [if_neg (fun k => hb k.2), if_neg (by simpa using hb)]; rfl
end Go.E
