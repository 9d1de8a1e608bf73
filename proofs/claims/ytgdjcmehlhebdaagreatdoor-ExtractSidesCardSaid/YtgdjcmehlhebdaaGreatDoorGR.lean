/-
  Plain words: heights; the root behind a growing step.
-/
import Derived.Test.YtgdjcmehlhebdaaGreatDoorTR
namespace Go.E
set_option linter.unusedVariables false
def bitlen (x : Nat) : Nat := if x = 0 then 0 else Nat.log2 x + 1
theorem bitlen_zero : bitlen 0 = 0 := rfl
theorem bitlen_lt (x : Nat) : x < 2 ^ bitlen x := by
  unfold bitlen; split
  · subst_vars; decide
  · exact Nat.lt_log2_self
theorem bitlen_le {x : Nat} (h : x ≠ 0) : 2 ^ (bitlen x - 1) ≤ x := by
  rw [bitlen, if_neg h, Nat.add_sub_cancel]; exact Nat.log2_self_le h
theorem bitlen_pos {x : Nat} (h : x ≠ 0) : 1 ≤ bitlen x := by rw [bitlen, if_neg h]; omega
theorem bitlen_uniq {x k : Nat} (h1 : x < 2 ^ k) (h2 : k = 0 ∨ 2 ^ (k - 1) ≤ x) : bitlen x = k := by
  have a := bitlen_lt x
  rcases Nat.lt_trichotomy (bitlen x) k with h | h | h
  · rcases h2 with h2 | h2
    · omega
    · have : 2 ^ bitlen x ≤ 2 ^ (k - 1) := Nat.pow_le_pow_right (by decide) (by omega)
      omega
  · exact h
  · have hx : x ≠ 0 := fun e => by rw [e, bitlen_zero] at h; omega
    have := bitlen_le hx
    have : 2 ^ k ≤ 2 ^ (bitlen x - 1) := Nat.pow_le_pow_right (by decide) (by omega)
    omega
theorem bitlen_shift {x n : Nat} (h : 2 ^ n ≤ x) : bitlen x = n + bitlen (x / 2 ^ n) := by
  have hy : x / 2 ^ n ≠ 0 := by
    have := (Nat.le_div_iff_mul_le (Nat.two_pow_pos n)).2 (by rw [Nat.one_mul]; exact h)
    omega
  have a := bitlen_lt (x / 2 ^ n)
  have b := bitlen_le hy
  have c := bitlen_pos hy
  refine bitlen_uniq ?_ (.inr ?_)
  · rw [Nat.pow_add, Nat.mul_comm]; exact (Nat.div_lt_iff_lt_mul (Nat.two_pow_pos n)).1 a
  · have := Nat.le_trans (Nat.mul_le_mul_right (2 ^ n) b) (Nat.div_mul_le_self x (2 ^ n))
    rw [← Nat.pow_add] at this
    rwa [show n + bitlen (x / 2 ^ n) - 1 = bitlen (x / 2 ^ n) - 1 + n by omega]
def len8L : List UInt8 := (List.range 256).map fun i => UInt8.ofNat (bitlen i)
theorem len8_ok (s : ByteArray) (hs : s.data = len8L.toArray) {i : Nat} (h : i < 256) : s[i]? = some (UInt8.ofNat (bitlen i)) := by
  have h1 : s.data[i]? = some (UInt8.ofNat (bitlen i)) := by rw [hs]; simp [len8L, h]
  have hl : i < s.data.size := (Array.getElem?_eq_some_iff.1 h1).1
  have hl' : i < s.size := hl
  rw [getElem?_pos s i hl']
  have := Array.getElem?_eq_some_iff.1 h1
  exact congrArg some this.2
theorem bitlen_8 {i : Nat} (h : i < 256) : bitlen i ≤ 8 := by
  rcases Nat.lt_or_ge 8 (bitlen i) with h1 | h1
  · have hx : i ≠ 0 := fun e => by rw [e, bitlen_zero] at h1; omega
    have := bitlen_le hx
    have : 2 ^ 8 ≤ 2 ^ (bitlen i - 1) := Nat.pow_le_pow_right (by decide) (by omega)
    omega
  · exact h1
theorem len8_nat {i : Nat} (h : i < 256) : (UInt8.ofNat (bitlen i)).toNat = bitlen i := by
  have := bitlen_8 h
  rw [UInt8.toNat_ofNat', Nat.mod_eq_of_lt (by omega)]

/-! heights -/
def okN (n : Nat) : Prop := 1 ≤ n ∧ n ≤ 4294967296
instance (n : Nat) : Decidable (okN n) := inferInstanceAs (Decidable (_ ∧ _))
def hgt (n : Nat) : Nat := bitlen (n - 1)
theorem hgt_le {n : Nat} (h : okN n) : hgt n ≤ 32 := by
  obtain ⟨h1, h2⟩ := h
  rcases Nat.lt_or_ge 32 (hgt n) with h3 | h3
  · unfold hgt at h3
    have hx : n - 1 ≠ 0 := fun e => by rw [e, bitlen_zero] at h3; omega
    have := bitlen_le hx
    have : 2 ^ 32 ≤ 2 ^ (bitlen (n - 1) - 1) := Nat.pow_le_pow_right (by decide) (by omega)
    omega
  · exact h3
theorem hgt_lt {n : Nat} (h : okN n) : n ≤ 2 ^ hgt n := by
  have := bitlen_lt (n - 1)
  obtain ⟨h1, h2⟩ := h
  unfold hgt; omega
end Go.E
