/-
  Plain words and laws for the volume's statements: lists of indices, errors as numbers.
-/
import Derived.Test.YtlneklemjfefpaaDoorE2
namespace Go.E
def u64s (xs : List Nat) : List Value := xs.map fun (x : Nat) => .int .u64 (x : Int)
theorem u64s_get {xs : List Nat} {i k : Nat} (h : i < xs.length) (hk : k = i) : (u64s xs)[k]? = some (.int .u64 ((xs.getD i 0 : Nat) : Int)) := by
  subst hk; simp [u64s, List.getElem?_eq_getElem h, List.getD]
theorem u64s_len (xs : List Nat) : (u64s xs).length = xs.length := by simp [u64s]
theorem u64s_drop (xs : List Nat) (k : Nat) : (u64s xs).drop k = u64s (xs.drop k) := by simp [u64s]
theorem drop_getD (xs : List Nat) (j k : Nat) : (xs.drop j).getD k 0 = xs.getD (k + j) 0 := by simp [List.getD, Nat.add_comm]
def errv (T : Nat) (k : Nat) : Value := if k = 0 then .nilIface else .iface T (.int .i64 (k : Int))
theorem errv_zero (T : Nat) : errv T 0 = .nilIface := rfl
theorem errv_pos {T k : Nat} (h : k ≠ 0) : errv T k = .iface T (.int .i64 (k : Int)) := if_neg h

def Rising (xs : List Nat) : Prop := ∀ i, i + 1 < xs.length → xs.getD i 0 < xs.getD (i + 1) 0
open Classical in
noncomputable def asked (xs : List Nat) (n : Nat) : Nat :=
  if 256 < xs.length then 3 else if xs.length = 0 then 2
  else if Rising xs then (if n ≤ xs.getD (xs.length - 1) 0 then 1 else 0) else 2
theorem asked_large {xs : List Nat} {n : Nat} (h : 256 < xs.length) : asked xs n = 3 := by simp [asked, h]
theorem asked_none {xs : List Nat} {n : Nat} (h : xs.length = 0) : asked xs n = 2 := by simp [asked, h]
theorem asked_fall {xs : List Nat} {n i : Nat} (h1 : ¬ 256 < xs.length) (hi : i + 1 < xs.length) (h : xs.getD (i + 1) 0 ≤ xs.getD i 0) : asked xs n = 2 := by
  have hr : ¬ Rising xs := fun hr => by have := hr i hi; omega
  unfold asked
  rw [if_neg h1, if_neg (by omega), if_neg hr]
theorem asked_last {xs : List Nat} {n : Nat} (h1 : ¬ 256 < xs.length) (h2 : xs.length ≠ 0) (hr : Rising xs) (h : n ≤ xs.getD (xs.length - 1) 0) : asked xs n = 1 := by
  unfold asked
  rw [if_neg h1, if_neg h2, if_pos hr, if_pos h]
theorem asked_ok {xs : List Nat} {n : Nat} (h1 : ¬ 256 < xs.length) (h2 : xs.length ≠ 0) (hr : Rising xs) (h : ¬ n ≤ xs.getD (xs.length - 1) 0) : asked xs n = 0 := by
  unfold asked
  rw [if_neg h1, if_neg h2, if_pos hr, if_neg h]
theorem rising_le {xs : List Nat} (hr : Rising xs) : ∀ j i, i ≤ j → j < xs.length → xs.getD i 0 ≤ xs.getD j 0 := by
  intro j
  induction j with
  | zero => intro i h _; have : i = 0 := by omega
            subst this; exact Nat.le_refl _
  | succ j ih =>
    intro i h hj
    rcases Nat.lt_or_ge i (j + 1) with h1 | h1
    · exact Nat.le_trans (ih i (by omega) (by omega)) (Nat.le_of_lt (hr j hj))
    · have : i = j + 1 := by omega
      subst this; exact Nat.le_refl _
end Go.E
