/-
  Plain words: climbing from a leaf, and cutting.
-/
import Derived.Test.YtlneklemjfefpaaDoorTN
import Derived.Test.YtlneklemjfefpaaDoorGR
import Derived.Test.YtlneklemjfefpaaDoorE2
namespace Go.E
set_option linter.unusedVariables false
def climbK (x : H32) (i : Nat) (ps : List H32) : Nat → H32
  | 0 => x
  | k + 1 => if i / 2 ^ k % 2 = 1 then joinH (k + 1) (ps.getD k zeroH) (climbK x i ps k) else joinH (k + 1) (climbK x i ps k) (ps.getD k zeroH)
def climbH (x : H32) (i : Nat) (ps : List H32) : H32 := climbK x i ps ps.length
theorem climb_odd {x : H32} {i : Nat} {ps : List H32} {k : Nat} (h : i / 2 ^ k % 2 = 1) : climbK x i ps (k + 1) = joinH (k + 1) (ps.getD k zeroH) (climbK x i ps k) := by rw [climbK, if_pos h]
theorem climb_even {x : H32} {i : Nat} {ps : List H32} {k : Nat} (h : ¬ i / 2 ^ k % 2 = 1) : climbK x i ps (k + 1) = joinH (k + 1) (climbK x i ps k) (ps.getD k zeroH) := by rw [climbK, if_neg h]
def fitsP (i n : Nat) : Prop := n ≤ 32 ∧ i / 2 ^ n = 0
instance (i n : Nat) : Decidable (fitsP i n) := inferInstanceAs (Decidable (_ ∧ _))
def cutP (E : Nat → H32) (ps : List H32) (a n k : Nat) : List H32 := (List.range n).map fun i => if i < k ∧ a / 2 ^ i % 2 = 0 then E i else ps.getD i zeroH
theorem cutP_length (E : Nat → H32) (ps : List H32) (a n k : Nat) : (cutP E ps a n k).length = n := by simp [cutP]
theorem cutP_zero (E : Nat → H32) {ps : List H32} (a : Nat) {n : Nat} (h : n ≤ ps.length) : cutP E ps a n 0 = ps.take n := by
  refine List.ext_getElem (by rw [cutP_length, List.length_take]; omega) fun i h1 h2 => ?_
  rw [cutP_length] at h1
  simp [cutP, List.getD, show i < ps.length by omega]
theorem cutP_even (E : Nat → H32) (ps : List H32) {a n k : Nat} (hk : k < n) (h : a / 2 ^ k % 2 = 0) : (cutP E ps a n k).set k (E k) = cutP E ps a n (k + 1) := by
  refine List.ext_getElem (by rw [List.length_set, cutP_length, cutP_length]) fun i h1 h2 => ?_
  rw [List.getElem_set]
  by_cases e : k = i
  · subst e; simp [cutP, h]
  · rw [if_neg e]
    have : i < k + 1 ↔ i < k := by omega
    simp [cutP, this]
theorem cutP_odd (E : Nat → H32) (ps : List H32) {a n k : Nat} (h : ¬ a / 2 ^ k % 2 = 0) : cutP E ps a n k = cutP E ps a n (k + 1) := by
  unfold cutP
  refine List.map_congr_left fun i _ => ?_
  by_cases e : i = k
  · subst e; simp [h]
  · have : i < k + 1 ↔ i < k := by omega
    simp [this]
/-- The cut path as it grows. -/
theorem cutQ_step (E : Nat → H32) (ps : List H32) (a k : Nat) : hcs (cutP E ps a k k) ++ hvl (if a / 2 ^ k % 2 = 0 then E k else ps.getD k zeroH) = hcs (cutP E ps a (k + 1) (k + 1)) := by
  have e : cutP E ps a (k + 1) (k + 1) = cutP E ps a k k ++ [if a / 2 ^ k % 2 = 0 then E k else ps.getD k zeroH] := by
    unfold cutP
    rw [List.range_succ, List.map_append]
    congr 1
    · refine List.map_congr_left fun i hi => ?_
      have := List.mem_range.1 hi
      simp [this, show i < k + 1 by omega]
    · simp
  rw [e, hcs_append]; simp [hcs]
def cutR (E : Nat → H32) (root x : H32) (ps : List H32) (was blocks : Nat) : H32 × Nat :=
  if ¬ (okN was ∧ okN blocks ∧ blocks ≤ was) then (zeroH, 1) else if ps.length ≠ hgt was then (zeroH, 2) else if climbH x (blocks - 1) ps ≠ root then (zeroH, 5)
  else (climbH x (blocks - 1) (cutP E ps (blocks - 1) (hgt blocks) (hgt blocks)), 0)
theorem cutR_1 {E : Nat → H32} {root x : H32} {ps : List H32} {was blocks : Nat} (h : ¬ (okN was ∧ okN blocks ∧ blocks ≤ was)) : cutR E root x ps was blocks = (zeroH, 1) := by rw [cutR, if_pos h]
theorem cutR_2 {E : Nat → H32} {root x : H32} {ps : List H32} {was blocks : Nat} (h : okN was ∧ okN blocks ∧ blocks ≤ was) (h2 : ps.length ≠ hgt was) : cutR E root x ps was blocks = (zeroH, 2) := by rw [cutR, if_neg (fun k => k h), if_pos h2]
theorem cutR_5 {E : Nat → H32} {root x : H32} {ps : List H32} {was blocks : Nat} (h : okN was ∧ okN blocks ∧ blocks ≤ was) (h2 : ps.length = hgt was) (h3 : climbH x (blocks - 1) ps ≠ root) : cutR E root x ps was blocks = (zeroH, 5) := by
  rw [cutR, if_neg (fun k => k h), if_neg (fun k => k h2), if_pos h3]
theorem cutR_0 {E : Nat → H32} {root x : H32} {ps : List H32} {was blocks : Nat} (h : okN was ∧ okN blocks ∧ blocks ≤ was) (h2 : ps.length = hgt was) (h3 : climbH x (blocks - 1) ps = root) :
    cutR E root x ps was blocks = (climbH x (blocks - 1) (cutP E ps (blocks - 1) (hgt blocks) (hgt blocks)), 0) := by
  rw [cutR, if_neg (fun k => k h), if_neg (fun k => k h2), if_neg (fun k => k h3)]
theorem fits_hgt {n m : Nat} (hn : okN n) (hm : okN m) (h : n ≤ m) : fitsP (n - 1) (hgt m) := by
  refine ⟨hgt_le hm, Nat.div_eq_of_lt ?_⟩
  have := hgt_lt hm
  obtain ⟨h1, _⟩ := hn
  omega
theorem half_step (i k : Nat) : i / 2 ^ k / 2 = i / 2 ^ (k + 1) := by rw [← half_pow, Nat.pow_one]
theorem hcs_set_app (l : List H32) (rest : List Value) (i : Nat) (x : H32) (h : i < l.length) : (hcs l ++ rest).take (i * 32) ++ vl (hv x) ++ (hcs l ++ rest).drop (i * 32 + (vl (hv x)).length) = hcs (l.set i x) ++ rest := by
  have hl := hcs_length l
  have h1 : i * 32 + 32 ≤ (hcs l).length := by rw [hl]; omega
  rw [List.take_append_of_le_length (by omega), List.drop_append_of_le_length (by rw [hv_len]; exact h1), ← List.append_assoc, hcs_set l i x h]
theorem cut_path (x : H32) (v : Value) : (vl (.agg (hvl x ++ [v]).toArray))[32]? = some v := by
  rw [vl_agg, List.getElem?_append_right (by rw [hvl_length]; exact Nat.le_refl _), hvl_length]; rfl
theorem cut_leaf (x : H32) (u : Value) : ∀ j v, (hvl x)[j]? = some v → (vl (.agg (hvl x ++ [u]).toArray))[0 + j]? = some v := fun j v h => by
  rw [vl_agg, Nat.zero_add, List.getElem?_append_left (List.getElem?_eq_some_iff.1 h).1]; exact h
theorem cut_size (x : H32) (u : Value) : (hvl x ++ [u]).length = 33 := by simp [hvl_length]
theorem hcs_nil_of {xs : List H32} (h : hcs xs = []) : xs = [] := by
  have := congrArg List.length h
  rw [hcs_length] at this
  exact List.eq_nil_of_length_eq_zero (by simp at this; omega)
variable {C : Ctx} {Q : EQ} {env : Env} {ops : Array Oper}
/-- A slice of one's own that is not empty, opened to its block. -/
theorem TL.openOwnP {e : TypeId} {sz : Nat} {A : Option Addr} {n c : Nat} {xs : List Value} {L : List Assn} {l : List Oper} (hn : 0 < n)
    (h1 : ∀ g cs, A = some ⟨g, 0, none⟩ → cs.take (n * sz) = xs → cs.length = c * sz → n ≤ c → c ≤ maxLen → TL C ops Q l env (Blk g e cs :: L)) : TL C ops Q l env (OwnA e sz A n c xs :: L) := fun a w ha hw => by
  have hok := hw.ok (A := OwnA e sz A n c xs) (List.mem_cons_self ..)
  rcases OwnA.blk hok with ⟨rfl, rfl, rfl, rfl⟩ | ⟨g, cs, rfl, hb, ht, hl, hn, hm⟩
  · exact absurd hn (Nat.lt_irrefl 0)
  · have hw' : St C.w0 C.M ([] ++ OwnA e sz (some ⟨g, 0, none⟩) n c xs :: L) w := hw
    exact h1 g cs rfl ht hl hn hm a w ha (hw'.upd (A' := Blk g e cs) rfl rfl rfl rfl rfl (fun _ _ => rfl) hb)
theorem own_split {n : Nat} {cs : List Value} {xs : List H32} (h : cs.take (n * 32) = hcs xs) : cs = hcs xs ++ cs.drop (n * 32) := by rw [← h, List.take_append_drop]
end Go.E
