/-
  Plain words: leaves that come from acts alone; leaves that are dropped; the document's list for another number of blocks.
-/
import Derived.Test.YtlneklemjfefpaaDoorP3
namespace Go.E
set_option linter.unusedVariables false
/-- Every leaf was laid by one of the first k acts. -/
def InS (E : Nat → H32) (xs : List Act) (k : Nat) (f : Nat → H32) : Prop := ∀ p, f p ≠ E 0 → p ∈ (xs.take k).map (·.i)
theorem InS.zero (E : Nat → H32) (xs : List Act) : InS E xs 0 (fun _ => E 0) := fun p h => absurd rfl h
theorem InS.skip {E : Nat → H32} {xs : List Act} {k : Nat} {f : Nat → H32} (h : InS E xs k f) (hk : k < xs.length) : InS E xs (k + 1) f := fun p hp => by
  rw [take_mem hk]; exact List.mem_append.2 (.inl (h p hp))
theorem InS.set {E : Nat → H32} {xs : List Act} {k : Nat} {f : Nat → H32} (h : InS E xs k f) (hk : k < xs.length) (x : H32) : InS E xs (k + 1) (updF f (xs.getD k act0).i x) := fun p hp => by
  rw [take_mem hk]
  unfold updF at hp
  by_cases e : p = (xs.getD k act0).i
  · exact List.mem_append.2 (.inr (List.mem_singleton.2 e))
  · rw [if_neg e] at hp; exact List.mem_append.2 (.inl (h p hp))
theorem InS.congr {E : Nat → H32} {xs : List Act} {k : Nat} {f g : Nat → H32} (h : InS E xs k f) (e : ∀ p, g p = f p) : InS E xs k g := fun p hp => h p (by rw [← e]; exact hp)
/-- Where the first k acts' leaves were dropped. -/
structure DropOk (E : Nat → H32) (height : Nat) (f : Nat → H32) (xs : List Act) (k : Nat) (f' : Nat → H32) : Prop where
  off : ∀ p, p < 2 ^ height → p ∈ (xs.take k).map (·.i) → f' p = E 0
  only : ∀ p, f' p ≠ E 0 → f p ≠ E 0
theorem DropOk.zero (E : Nat → H32) (height : Nat) (f : Nat → H32) (xs : List Act) : DropOk E height f xs 0 f := ⟨fun p _ h => by simp at h, fun _ h => h⟩
theorem DropOk.skip {E : Nat → H32} {height : Nat} {f : Nat → H32} {xs : List Act} {k : Nat} {f' : Nat → H32} (h : DropOk E height f xs k f') (hk : k < xs.length) (hs : ¬ (xs.getD k act0).i < 2 ^ height) : DropOk E height f xs (k + 1) f' :=
  ⟨fun p hp hm => by
    rw [take_mem hk] at hm
    rcases List.mem_append.1 hm with hm | hm
    · exact h.off p hp hm
    · rw [List.mem_singleton.1 hm] at hp; exact absurd hp hs, h.only⟩
theorem DropOk.drop {E : Nat → H32} {height : Nat} {f : Nat → H32} {xs : List Act} {k : Nat} {f' : Nat → H32} (h : DropOk E height f xs k f') (hk : k < xs.length) : DropOk E height f xs (k + 1) (updF f' (xs.getD k act0).i (E 0)) :=
  ⟨fun p hp hm => by
    rw [take_mem hk] at hm
    unfold updF
    by_cases e : p = (xs.getD k act0).i
    · rw [if_pos e]
    · rw [if_neg e]
      rcases List.mem_append.1 hm with hm | hm
      · exact h.off p hp hm
      · exact absurd (List.mem_singleton.1 hm) e,
   fun p hp => by
    unfold updF at hp
    by_cases e : p = (xs.getD k act0).i
    · rw [if_pos e] at hp; exact absurd rfl hp
    · rw [if_neg e] at hp; exact h.only p hp⟩
theorem DropOk.all {E : Nat → H32} {height : Nat} {f : Nat → H32} {xs : List Act} {k : Nat} {f' : Nat → H32} {ms : Tm} (h : DropOk E height f xs k f') (hk : xs.length ≤ k) (hi : InS E xs xs.length f) (ht : TreeOk E height f' ms) : lvT ms = [] := by
  refine List.eq_nil_iff_forall_not_mem.2 fun p hp => ?_
  obtain ⟨h1, h2⟩ := ht.lv.1 hp
  have h3 := hi p (h.only p h2)
  rw [List.take_length] at h3
  exact h2 (h.off p h1 (by rw [take_all xs hk]; exact h3))
end Go.E
