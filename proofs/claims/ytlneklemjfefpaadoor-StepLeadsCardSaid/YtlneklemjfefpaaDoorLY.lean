/-
  Plain words: new leaves at some indices; how many leaves a tree may have.
-/
import Derived.Test.YtlneklemjfefpaaDoorLX
namespace Go.E
set_option linter.unusedVariables false
def LF (k : Nat) : H32 := ⟨UInt8.ofNat k :: 1 :: List.replicate 30 0, by simp⟩
structure NewOk (xs : List Nat) (g g2 : Nat → H32) (k : Nat) : Prop where
  off : ∀ p, p ∉ xs → g2 p = g p
  on : ∀ j, j < k → g2 (xs.getD j 0) = LF j
theorem NewOk.zero (xs : List Nat) (g : Nat → H32) : NewOk xs g g 0 := ⟨fun _ _ => rfl, fun j h => absurd h (Nat.not_lt_zero _)⟩
theorem NewOk.step {xs : List Nat} {g g2 : Nat → H32} {k : Nat} (h : NewOk xs g g2 k) (hr : xs.Pairwise (· < ·)) (hk : k < xs.length) : NewOk xs g (updF g2 (xs.getD k 0) (LF k)) (k + 1) where
  off p hp := by
    unfold updF
    rw [if_neg (fun e : p = xs.getD k 0 => hp (by rw [e]; exact getD_mem 0 hk))]
    exact h.off p hp
  on j hj := by
    unfold updF
    rcases Nat.lt_or_ge j k with h1 | h1
    · have := lt_at hr h1 hk
      rw [if_neg (by omega)]; exact h.on j h1
    · obtain rfl : j = k := by omega
      rw [if_pos rfl]
theorem NewOk.all {xs : List Nat} {g g2 : Nat → H32} {k : Nat} (h : NewOk xs g g2 k) (hk : xs.length ≤ k) : xs.map g2 = (List.range xs.length).map LF := by
  refine List.ext_getElem (by simp) fun i h1 h2 => ?_
  rw [List.length_map] at h1
  have := h.on i (by omega)
  rw [show xs.getD i 0 = xs[i] by simp [List.getD, h1]] at this
  simp [this]
theorem idxOk_of {height : Nat} {xs : List Nat} (h1 : 0 < xs.length) (h2 : xs.length ≤ 256) (hr : xs.Pairwise (· < ·)) (hl : ∀ x ∈ xs, x < 2 ^ height) : idxOk height xs :=
  ⟨h1, h2, fun j hj => ⟨hl _ (getD_mem 0 hj), fun h0 => lt_at hr (by omega) hj⟩⟩
theorem cnt_lv {E : Nat → H32} {height : Nat} {g : Nat → H32} {ms : Tm} (ht : TreeOk E height g ms) {is : List Nat} (hs : ∀ p, g p ≠ E 0 → p ∈ is) (hl : is.length < 4294967296) : (lv0 (keysOf ms)).length < 4294967296 := by
  have h1 : (lvT ms).Nodup := (lvT_rise ht.nodup).imp fun {a b} h => Nat.ne_of_lt h
  have h2 := nodup_len h1 fun p hp => hs p (ht.lv.1 hp).2
  have h3 : (lvT ms).length = (lv0 (keysOf ms)).length := (srt_perm _).length_eq
  omega
theorem LF_snoc (k : Nat) : hcs ((List.range k).map LF) ++ hvl (LF k) = hcs ((List.range (k + 1)).map LF) := by
  rw [List.range_succ, List.map_append, hcs_append]; simp [hcs]
end Go.E
