/-
  Acts of the document's volume: plain facts. The last written value: plain facts.
-/
import Derived.Test.YtaoicbjgkghnnaaMP
import Derived.Test.YtaoicbjgkghnnaaM2
namespace Go.E
set_option linter.unusedVariables false
structure ActL where
  k : Int
  A : Option Addr
  xs : List Nat
  c : Nat
  B : Option Addr
  bs : List H32
  d : Nat
  f : Nat
  q : Int
def actL0 : ActL := ⟨0, none, [], 0, none, [], 0, 0, 0⟩
def ActL.flat (a : ActL) : Act5 := ⟨a.k, a.A, a.xs.length, a.c, a.B, a.bs.length, a.d, a.f, a.q⟩
theorem flat_getD (l : List ActL) (k : Nat) (h : k < l.length) : (l.map ActL.flat).getD k act50 = (l.getD k actL0).flat := by simp [List.getD, h]
def ActL.Ok (w : World) (a : ActL) : Prop := a.xs.length ≤ a.c ∧ a.c ≤ 9223372036854775807 ∧ a.q ≤ 9223372036854775807 ∧ Ro w [] (SlA a.A (u64s a.xs)) ∧ Ro w [] (SlA a.B (hcs a.bs))
theorem longB_len {l : List Act5} (h : longB l = false) : l.length ≤ 40 := by
  unfold longB at h
  rw [Bool.or_eq_false_iff] at h
  have := of_decide_eq_false h.1
  omega
theorem act_at {l : List ActL} {k : Nat} {a : ActL} (h : k < l.length) (e : l.getD k actL0 = a) : ∀ j v, (acell a.flat)[j]? = some v → (acs (l.map ActL.flat))[k * 5 + j]? = some v :=
  fun j v hj => acs_at (by rw [List.length_map]; exact h) rfl j v (by rw [flat_getD l k h, e]; exact hj)
theorem layL_len' (xs : List Nat) (bs : List H32) (ls : Ls) (h : xs.length = bs.length) : (layL ls xs bs).length ≤ ls.length + xs.length := by
  have := layL_len xs bs xs.length ls (Nat.le_refl _) (by omega)
  rwa [layL_all ls xs bs xs.length (Nat.le_refl _) (by omega)] at this
theorem cutD_len' (xs : List Nat) (ls : Ls) : (cutD ls xs).length ≤ ls.length := by
  have := cutD_len xs xs.length ls (Nat.le_refl _)
  rwa [List.take_length] at this
theorem asked_256 {xs : List Nat} {n : Nat} (h : asked xs n = 0) : xs.length ≤ 256 := by
  rcases Nat.lt_or_ge 256 xs.length with h0 | h0
  · rw [asked_large h0] at h; cases h
  · exact h0
theorem spanned_256 {first n : Nat} {many : Int} (h : spanned first many n = 0) : many ≤ 256 := by
  unfold spanned at h
  split at h
  · cases h
  · omega
theorem doD_len (n : Nat) (ls : Ls) (kd : Nat) (xs : List Nat) (bs : List H32) (f : Nat) (q : Int) : (doD n ls kd xs bs f q).2.2.2.length ≤ ls.length + 256 := by
  unfold doD
  split
  · show (writeD n ls xs bs).2.length ≤ _
    unfold writeD
    split
    · exact Nat.le_add_right ..
    · rename_i h
      have := asked_256 (Decidable.not_not.1 h)
      split
      · exact Nat.le_add_right ..
      · rename_i h2
        have := layL_len' xs bs ls (Decidable.not_not.1 h2)
        show (layL ls xs bs).length ≤ _
        omega
  · split
    · show (trimD n ls xs).2.length ≤ _
      unfold trimD
      split
      · exact Nat.le_add_right ..
      · exact Nat.le_trans (cutD_len' xs ls) (Nat.le_add_right ..)
    · split
      · exact Nat.le_add_right ..
      · split
        · exact Nat.le_add_right ..
        · show (resizeD n ls f).2.2.length ≤ _
          unfold resizeD
          split
          · exact Nat.le_add_right ..
          · split
            · exact Nat.le_add_right ..
            · exact Nat.le_trans (List.length_filter_le ..) (Nat.le_add_right ..)
theorem doD_blocks (n : Nat) (ls : Ls) (kd : Nat) (xs : List Nat) (bs : List H32) (f : Nat) (q : Int) : (doD n ls kd xs bs f q).2.1.length ≤ 256 := by
  unfold doD
  split
  · exact Nat.zero_le _
  · split
    · exact Nat.zero_le _
    · split
      · show (readD n ls xs).2.length ≤ _
        unfold readD
        split
        · exact Nat.zero_le _
        · rename_i h
          have := asked_256 (Decidable.not_not.1 h)
          simpa using this
      · split
        · show (spanD n ls f q).2.length ≤ _
          unfold spanD
          split
          · exact Nat.zero_le _
          · rename_i h
            have := spanned_256 (Decidable.not_not.1 h)
            simp only [spanLD, List.length_map, List.length_range]; omega
        · exact Nat.zero_le _
theorem doD_size (n : Nat) (ls : Ls) (kd : Nat) (xs : List Nat) (bs : List H32) (f : Nat) (q : Int) (h : 1 ≤ n ∧ n ≤ 4294967296) : 1 ≤ (doD n ls kd xs bs f q).2.2.1 ∧ (doD n ls kd xs bs f q).2.2.1 ≤ 4294967296 := by
  unfold doD
  split
  · exact h
  · split
    · exact h
    · split
      · exact h
      · split
        · exact h
        · show 1 ≤ (resizeD n ls f).2.1 ∧ (resizeD n ls f).2.1 ≤ _
          unfold resizeD
          split
          · exact h
          · rename_i h1
            split
            · exact h
            · exact Decidable.not_not.1 h1
end Go.E
namespace Go.E
set_option linter.unusedVariables false
end Go.E
