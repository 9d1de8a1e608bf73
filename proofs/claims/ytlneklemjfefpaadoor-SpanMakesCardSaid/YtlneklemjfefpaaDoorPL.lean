/-
  Plain words: the nodes of a proof.
-/
import Derived.Test.YtlneklemjfefpaaDoorTP
namespace Go.E
set_option linter.unusedVariables false
/-- Those below a node. -/
def cutN (xs : List Nat) (l q : Nat) : List Nat := xs.filter fun x => x / 2 ^ l == q
theorem cutN_mem {xs : List Nat} {l q : Nat} : ∀ x ∈ cutN xs l q, x / 2 ^ l = q := fun x hx => by
  have := (List.mem_filter.1 hx).2; simpa using this
theorem cutN_sub {xs : List Nat} {l q : Nat} : ∀ x ∈ cutN xs l q, x ∈ xs := fun x hx => (List.mem_filter.1 hx).1
theorem cutN_rise {xs : List Nat} {l q : Nat} (h : xs.Pairwise (· < ·)) : (cutN xs l q).Pairwise (· < ·) := h.sublist List.filter_sublist
theorem cutN_len (xs : List Nat) (l q : Nat) : (cutN xs l q).length ≤ xs.length := List.length_filter_le ..
theorem cutN_cut (xs : List Nat) (l p q : Nat) (h : q / 2 = p) : cutN (cutN xs (l + 1) p) l q = cutN xs l q := by
  unfold cutN
  rw [List.filter_filter]
  refine List.filter_congr fun x _ => ?_
  by_cases e : x / 2 ^ l = q
  · have : x / 2 ^ (l + 1) = p := by rw [← half_step, e, h]
    simp [e, this]
  · simp [e]
theorem cutN_all {xs : List Nat} {l p : Nat} (h : ∀ x ∈ xs, x / 2 ^ l = p) : cutN xs l p = xs := List.filter_eq_self.2 fun x hx => by simpa using h x hx
theorem cutN_none {xs : List Nat} {l p : Nat} (h : ∀ x ∈ xs, x / 2 ^ l ≠ p) : cutN xs l p = [] := List.filter_eq_nil_iff.2 fun x hx => by simpa using h x hx
theorem cutN_two (l p : Nat) : ∀ xs : List Nat, (cutN xs l (2 * p)).length + (cutN xs l (2 * p + 1)).length ≤ xs.length
  | [] => Nat.le_refl _
  | x :: xs => by
    have h := cutN_two l p xs
    simp only [cutN, List.filter_cons, List.length_cons] at h ⊢
    by_cases a : x / 2 ^ l = 2 * p
    · have b : ¬ (x / 2 ^ l = 2 * p + 1) := by omega
      simp only [beq_iff_eq, a, if_true, if_false, List.length_cons, show ¬ (2 * p = 2 * p + 1) by omega]; omega
    · by_cases b : x / 2 ^ l = 2 * p + 1
      · simp only [beq_iff_eq, b, if_true, if_false, List.length_cons, show ¬ (2 * p + 1 = 2 * p) by omega]; omega
      · simp only [beq_iff_eq, a, b, if_false]; omega
/-- The nodes beside indices, in their order. -/
def spots : Nat → List Nat → Nat → Sd
  | 0, xs, p => if xs = [] then [(0, p)] else []
  | l + 1, xs, p => if xs = [] then [(l + 1, p)] else spots l (cutN xs l (2 * p)) (2 * p) ++ spots l (cutN xs l (2 * p + 1)) (2 * p + 1)
theorem spots_nil (l p : Nat) : spots l [] p = [(l, p)] := by cases l <;> rfl
theorem spots_zero {xs : List Nat} {p : Nat} (h : xs ≠ []) : spots 0 xs p = [] := if_neg h
theorem spots_succ {xs : List Nat} {l p : Nat} (h : xs ≠ []) : spots (l + 1) xs p = spots l (cutN xs l (2 * p)) (2 * p) ++ spots l (cutN xs l (2 * p + 1)) (2 * p + 1) := if_neg h
theorem spots_len : ∀ (l : Nat) (xs : List Nat) (p : Nat), (spots l xs p).length ≤ xs.length * l + 1
  | 0, xs, p => by rw [spots]; split <;> simp
  | l + 1, xs, p => by
    rw [spots]
    split
    · simp
    · rename_i h
      have h1 := spots_len l (cutN xs l (2 * p)) (2 * p)
      have h2 := spots_len l (cutN xs l (2 * p + 1)) (2 * p + 1)
      have h3 := cutN_two l p xs
      have h4 : 0 < xs.length := List.length_pos_iff.2 h
      rw [List.length_append]
      have h5 : (cutN xs l (2 * p)).length * l + (cutN xs l (2 * p + 1)).length * l ≤ xs.length * l := by rw [← Nat.add_mul]; exact Nat.mul_le_mul_right _ h3
      rw [Nat.mul_succ]; omega
/-- The same, as the document finds them. -/
def rspots : Nat → List Nat → Nat → Sd
  | 0, xs, p => if cutN xs 0 p = [] then [(0, p)] else []
  | l + 1, xs, p => if cutN xs (l + 1) p = [] then [(l + 1, p)] else rspots l xs (2 * p) ++ rspots l xs (2 * p + 1)
theorem rspots_eq (xs : List Nat) : ∀ l p, rspots l xs p = spots l (cutN xs l p) p
  | 0, p => rfl
  | l + 1, p => by
    rw [rspots, spots]
    split
    · rfl
    · rw [rspots_eq xs l (2 * p), rspots_eq xs l (2 * p + 1), cutN_cut xs l p (2 * p) (by omega), cutN_cut xs l p (2 * p + 1) (by omega)]
theorem rspots_nil {xs : List Nat} {l p : Nat} (h : cutN xs l p = []) : rspots l xs p = [(l, p)] := by rw [rspots_eq, h, spots_nil]
theorem rspots_zero {xs : List Nat} {p : Nat} (h : cutN xs 0 p ≠ []) : rspots 0 xs p = [] := if_neg h
theorem rspots_succ {xs : List Nat} {l p : Nat} (h : cutN xs (l + 1) p ≠ []) : rspots (l + 1) xs p = rspots l xs (2 * p) ++ rspots l xs (2 * p + 1) := if_neg h
theorem rspots_len (l : Nat) (xs : List Nat) (p : Nat) : (rspots l xs p).length ≤ xs.length * l + 1 := by
  rw [rspots_eq]
  exact Nat.le_trans (spots_len ..) (Nat.succ_le_succ (Nat.mul_le_mul_right _ (cutN_len ..)))
/-- Where a rising list parts. -/
theorem split_at {xs : List Nat} {l p i : Nat} (hs : xs.Pairwise (· < ·)) (hx : ∀ x ∈ xs, x / 2 ^ (l + 1) = p) (h1 : ∀ j, j < i → xs.getD j 0 / 2 ^ l = 2 * p) (h2 : i < xs.length → xs.getD i 0 / 2 ^ l ≠ 2 * p) :
    xs.take i = cutN xs l (2 * p) ∧ xs.drop i = cutN xs l (2 * p + 1) := by
  have hT : ∀ x ∈ xs.take i, x / 2 ^ l = 2 * p := fun x hm => by
    obtain ⟨j, hj, rfl⟩ := List.mem_take_iff_getElem.1 hm
    have := h1 j (by omega)
    rwa [show xs.getD j 0 = xs[j] by simp [List.getD, show j < xs.length by omega]] at this
  have hD : ∀ x ∈ xs.drop i, x / 2 ^ l = 2 * p + 1 := fun x hm => by
    have hi : i < xs.length := by
      rcases Nat.lt_or_ge i xs.length with h | h
      · exact h
      · rw [List.drop_of_length_le h] at hm; cases hm
    have hh := h2 hi
    rw [show xs.getD i 0 = xs[i] by simp [List.getD, hi]] at hh
    have hp := hx xs[i] (List.getElem_mem hi)
    rw [← half_step] at hp
    have hxp := hx x (List.mem_of_mem_drop hm)
    rw [← half_step] at hxp
    have hle : xs[i] ≤ x := by
      have hd := hs.sublist (List.drop_sublist i xs)
      rw [List.drop_eq_getElem_cons hi] at hm hd
      rcases List.mem_cons.1 hm with rfl | hm
      · exact Nat.le_refl _
      · exact Nat.le_of_lt (List.rel_of_pairwise_cons hd hm)
    have hq := Nat.div_le_div_right (c := 2 ^ l) hle
    generalize xs[i] / 2 ^ l = a at hh hp hq
    generalize x / 2 ^ l = b at hxp hq ⊢
    omega
  have e : ∀ q, cutN xs l q = cutN (xs.take i) l q ++ cutN (xs.drop i) l q := fun q => by
    unfold cutN; rw [← List.filter_append, List.take_append_drop]
  constructor
  · rw [e, cutN_all hT, cutN_none (fun x hm => by rw [hD x hm]; omega), List.append_nil]
  · rw [e, cutN_all hD, cutN_none (fun x hm => by rw [hT x hm]; omega), List.nil_append]
/-- Indices that are right for a height. -/
def idxTo (height : Nat) (xs : List Nat) (k : Nat) : Prop := ∀ j, j < k → xs.getD j 0 < 2 ^ height ∧ (0 < j → xs.getD (j - 1) 0 < xs.getD j 0)
instance (height : Nat) (xs : List Nat) (k : Nat) : Decidable (idxTo height xs k) := inferInstanceAs (Decidable (∀ j, j < k → _))
def idxOk (height : Nat) (xs : List Nat) : Prop := 1 ≤ xs.length ∧ xs.length ≤ 256 ∧ idxTo height xs xs.length
instance (height : Nat) (xs : List Nat) : Decidable (idxOk height xs) := inferInstanceAs (Decidable (_ ∧ _ ∧ _))
theorem idxTo_zero (height : Nat) (xs : List Nat) : idxTo height xs 0 := fun j h => absurd h (Nat.not_lt_zero _)
theorem idxTo_succ {height : Nat} {xs : List Nat} {k : Nat} (h : idxTo height xs k) (h1 : xs.getD k 0 < 2 ^ height) (h2 : 0 < k → xs.getD (k - 1) 0 < xs.getD k 0) : idxTo height xs (k + 1) := fun j hj => by
  rcases Nat.lt_or_ge j k with h3 | h3
  · exact h j h3
  · obtain rfl : j = k := by omega
    exact ⟨h1, h2⟩
theorem idxTo_lt {height : Nat} {xs : List Nat} {k : Nat} (h : idxTo height xs k) (hk : k ≤ xs.length) : ∀ (j i : Nat), i < j → j < k → xs.getD i 0 < xs.getD j 0
  | 0, i, hi, _ => absurd hi (Nat.not_lt_zero _)
  | j + 1, i, hi, hj => by
    have h1 := (h (j + 1) hj).2 (Nat.succ_pos _)
    rw [Nat.add_sub_cancel] at h1
    rcases Nat.lt_or_ge i j with h2 | h2
    · exact Nat.lt_trans (idxTo_lt h hk j i h2 (by omega)) h1
    · obtain rfl : i = j := by omega
      exact h1
theorem idxOk.rise {height : Nat} {xs : List Nat} (h : idxOk height xs) : xs.Pairwise (· < ·) :=
  List.pairwise_iff_getElem.2 fun i j hi hj hij => by
    have := idxTo_lt h.2.2 (Nat.le_refl _) j i hij hj
    rwa [show xs.getD i 0 = xs[i] by simp [List.getD, hi], show xs.getD j 0 = xs[j] by simp [List.getD, hj]] at this
theorem idxOk.low {height : Nat} {xs : List Nat} (h : idxOk height xs) : ∀ x ∈ xs, x < 2 ^ height := fun x hx => by
  obtain ⟨j, hj, rfl⟩ := List.mem_iff_getElem.1 hx
  have := (h.2.2 j hj).1
  rwa [show xs.getD j 0 = xs[j] by simp [List.getD, hj]] at this
theorem idxOk.root {height : Nat} {xs : List Nat} (h : idxOk height xs) : ∀ x ∈ xs, x / 2 ^ height = 0 := fun x hx => Nat.div_eq_of_lt (h.low x hx)
theorem idxOk.ne {height : Nat} {xs : List Nat} (h : idxOk height xs) : xs ≠ [] := fun e => by have := h.1; rw [e] at this; exact absurd this (by decide)
/-- The two children of a node of a tree. -/
theorem okAt_kids {height l p : Nat} (h : okAt height (l + 1, p)) : okAt height (l, 2 * p) ∧ okAt height (l, 2 * p + 1) := by
  obtain ⟨h1, h2⟩ := h
  have h1' : l + 1 ≤ height := h1
  have h2' : p < 2 ^ (height - (l + 1)) := h2
  have h3 := pow_split (height := height) (l := l) (by omega)
  refine ⟨⟨by show l ≤ height; omega, ?_⟩, ⟨by show l ≤ height; omega, ?_⟩⟩
  · show 2 * p < 2 ^ (height - l); omega
  · show 2 * p + 1 < 2 ^ (height - l); omega
theorem spots_ok {height : Nat} : ∀ (l : Nat) (xs : List Nat) (p : Nat), okAt height (l, p) → ∀ a ∈ spots l xs p, okAt height a
  | 0, xs, p, h, a, ha => by
    rw [spots] at ha
    split at ha
    · rw [List.mem_singleton.1 ha]; exact h
    · cases ha
  | l + 1, xs, p, h, a, ha => by
    rw [spots] at ha
    split at ha
    · rw [List.mem_singleton.1 ha]; exact h
    · rcases List.mem_append.1 ha with h1 | h1
      · exact spots_ok l _ _ (okAt_kids h).1 a h1
      · exact spots_ok l _ _ (okAt_kids h).2 a h1
/-- Nodes' places, in cells. -/
def sdL (s : Sd) : List Value := s.flatMap fun a => [.int .i64 (a.1 : Int), .int .u64 (a.2 : Int)]
theorem sdL_nil : sdL [] = [] := rfl
theorem sdL_app (s t : Sd) : sdL (s ++ t) = sdL s ++ sdL t := List.flatMap_append
theorem sdL_len (s : Sd) : (sdL s).length = s.length * 2 := flat_len (encL := fun a : Nat × Nat => [.int .i64 (a.1 : Int), .int .u64 (a.2 : Int)]) (sz := 2) (fun _ => rfl) s
theorem sdL_one (s : Sd) : ∀ u ∈ sdL s, u.oneCell' = true := fun u hu => by
  obtain ⟨a, _, h⟩ := List.mem_flatMap.1 hu
  rcases List.mem_cons.1 h with rfl | h
  · rfl
  · rw [List.mem_singleton.1 h]; rfl
theorem sdL_at {s : Sd} {k : Nat} (h : k < s.length) : (sdL s)[k * 2]? = some (.int .i64 ((s.getD k (0, 0)).1 : Int)) ∧ (sdL s)[k * 2 + 1]? = some (.int .u64 ((s.getD k (0, 0)).2 : Int)) :=
  ⟨flat_at (encL := fun a : Nat × Nat => [.int .i64 (a.1 : Int), .int .u64 (a.2 : Int)]) (sz := 2) (fun _ => rfl) s k _ (getD_some (0, 0) h) 0 _ rfl, flat_at (encL := fun a : Nat × Nat => [.int .i64 (a.1 : Int), .int .u64 (a.2 : Int)]) (sz := 2) (fun _ => rfl) s k _ (getD_some (0, 0) h) 1 _ rfl⟩
end Go.E
