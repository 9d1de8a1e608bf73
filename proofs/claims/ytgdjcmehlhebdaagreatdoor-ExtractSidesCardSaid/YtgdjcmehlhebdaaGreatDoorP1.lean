/-
  Plain words: the nodes of a proof. Plain words: what leaves and a proof come to. Indices in a slice that is read: parts of it; the closures of a walk over a proof's nodes. Plain words: a root that leaves and a proof come to, with the texts that were joined on the way; and these in blocks.
-/
import Derived.Test.YtgdjcmehlhebdaaGreatDoorTP
import Derived.Test.YtgdjcmehlhebdaaGreatDoorE2
import Derived.Test.YtgdjcmehlhebdaaGreatDoorMO
namespace Go.E
set_option linter.unusedVariables false
/-- Those below a node. -/
def cutN (xs : List Nat) (l q : Nat) : List Nat := xs.filter fun x => x / 2 ^ l == q
theorem cutN_mem {xs : List Nat} {l q : Nat} : ∀ x ∈ cutN xs l q, x / 2 ^ l = q := fun x hx => by
  have := (List.mem_filter.1 hx).2; simpa using this
theorem cutN_rise {xs : List Nat} {l q : Nat} (h : xs.Pairwise (· < ·)) : (cutN xs l q).Pairwise (· < ·) := h.sublist List.filter_sublist
theorem cutN_len (xs : List Nat) (l q : Nat) : (cutN xs l q).length ≤ xs.length := List.length_filter_le ..
theorem cutN_all {xs : List Nat} {l p : Nat} (h : ∀ x ∈ xs, x / 2 ^ l = p) : cutN xs l p = xs := List.filter_eq_self.2 fun x hx => by simpa using h x hx
theorem cutN_none {xs : List Nat} {l p : Nat} (h : ∀ x ∈ xs, x / 2 ^ l ≠ p) : cutN xs l p = [] := List.filter_eq_nil_iff.2 fun x hx => by simpa using h x hx
theorem cutN_two (l p : Nat) : ∀ xs : List Nat, (cutN xs l (2 * p)).length + (cutN xs l (2 * p + 1)).length ≤ xs.length
  | [] => Nat.le_refl _
  | x :: xs => by
    have h := cutN_two l p xs
    simp only [cutN, List.filter_cons, List.length_cons] at h ⊢
    by_cases a : x / 2 ^ l = 2 * p
    · have b : ¬ (x / 2 ^ l = 2 * p + 1) := by omega
      simp only [beq_iff_eq, a, if_true, if_false, List.length_cons, show ¬ (2 * p = 2 * p + 1) by omega]; omega
    · by_cases b : x / 2 ^ l = 2 * p + 1
      · simp only [beq_iff_eq, b, if_true, if_false, List.length_cons, show ¬ (2 * p + 1 = 2 * p) by omega]; omega
      · simp only [beq_iff_eq, a, b, if_false]; omega
/-- The nodes beside indices, in their order. -/
def spots : Nat → List Nat → Nat → Sd
  | 0, xs, p => if xs = [] then [(0, p)] else []
  | l + 1, xs, p => if xs = [] then [(l + 1, p)] else spots l (cutN xs l (2 * p)) (2 * p) ++ spots l (cutN xs l (2 * p + 1)) (2 * p + 1)
theorem spots_nil (l p : Nat) : spots l [] p = [(l, p)] := by cases l <;> rfl
theorem spots_zero {xs : List Nat} {p : Nat} (h : xs ≠ []) : spots 0 xs p = [] := if_neg h
theorem spots_succ {xs : List Nat} {l p : Nat} (h : xs ≠ []) : spots (l + 1) xs p = spots l (cutN xs l (2 * p)) (2 * p) ++ spots l (cutN xs l (2 * p + 1)) (2 * p + 1) := if_neg h
theorem spots_len : ∀ (l : Nat) (xs : List Nat) (p : Nat), (spots l xs p).length ≤ xs.length * l + 1
  | 0, xs, p => by rw [spots]; split <;> simp
  | l + 1, xs, p => by
    rw [spots]
    split
    · simp
    · rename_i h
      have h1 := spots_len l (cutN xs l (2 * p)) (2 * p)
      have h2 := spots_len l (cutN xs l (2 * p + 1)) (2 * p + 1)
      have h3 := cutN_two l p xs
      have h4 : 0 < xs.length := List.length_pos_iff.2 h
      rw [List.length_append]
      have h5 : (cutN xs l (2 * p)).length * l + (cutN xs l (2 * p + 1)).length * l ≤ xs.length * l := by rw [← Nat.add_mul]; exact Nat.mul_le_mul_right _ h3
      rw [Nat.mul_succ]; omega
/-- Where a rising list parts. -/
theorem split_at {xs : List Nat} {l p i : Nat} (hs : xs.Pairwise (· < ·)) (hx : ∀ x ∈ xs, x / 2 ^ (l + 1) = p) (h1 : ∀ j, j < i → xs.getD j 0 / 2 ^ l = 2 * p) (h2 : i < xs.length → xs.getD i 0 / 2 ^ l ≠ 2 * p) :
    xs.take i = cutN xs l (2 * p) ∧ xs.drop i = cutN xs l (2 * p + 1) := by
  have hT : ∀ x ∈ xs.take i, x / 2 ^ l = 2 * p := fun x hm => by
    obtain ⟨j, hj, rfl⟩ := List.mem_take_iff_getElem.1 hm
    have := h1 j (by omega)
    rwa [show xs.getD j 0 = xs[j] by simp [List.getD, show j < xs.length by omega]] at this
  have hD : ∀ x ∈ xs.drop i, x / 2 ^ l = 2 * p + 1 := fun x hm => by
    have hi : i < xs.length := by
      rcases Nat.lt_or_ge i xs.length with h | h
      · exact h
      · rw [List.drop_of_length_le h] at hm; cases hm
    have hh := h2 hi
    rw [show xs.getD i 0 = xs[i] by simp [List.getD, hi]] at hh
    have hp := hx xs[i] (List.getElem_mem hi)
    rw [← half_step] at hp
    have hxp := hx x (List.mem_of_mem_drop hm)
    rw [← half_step] at hxp
    have hle : xs[i] ≤ x := by
      have hd := hs.sublist (List.drop_sublist i xs)
      rw [List.drop_eq_getElem_cons hi] at hm hd
      rcases List.mem_cons.1 hm with rfl | hm
      · exact Nat.le_refl _
      · exact Nat.le_of_lt (List.rel_of_pairwise_cons hd hm)
    have hq := Nat.div_le_div_right (c := 2 ^ l) hle
    generalize xs[i] / 2 ^ l = a at hh hp hq
    generalize x / 2 ^ l = b at hxp hq ⊢
    omega
  have e : ∀ q, cutN xs l q = cutN (xs.take i) l q ++ cutN (xs.drop i) l q := fun q => by
    unfold cutN; rw [← List.filter_append, List.take_append_drop]
  constructor
  · rw [e, cutN_all hT, cutN_none (fun x hm => by rw [hD x hm]; omega), List.append_nil]
  · rw [e, cutN_all hD, cutN_none (fun x hm => by rw [hT x hm]; omega), List.nil_append]
/-- Indices that are right for a height. -/
def idxTo (height : Nat) (xs : List Nat) (k : Nat) : Prop := ∀ j, j < k → xs.getD j 0 < 2 ^ height ∧ (0 < j → xs.getD (j - 1) 0 < xs.getD j 0)
instance (height : Nat) (xs : List Nat) (k : Nat) : Decidable (idxTo height xs k) := inferInstanceAs (Decidable (∀ j, j < k → _))
def idxOk (height : Nat) (xs : List Nat) : Prop := 1 ≤ xs.length ∧ xs.length ≤ 256 ∧ idxTo height xs xs.length
instance (height : Nat) (xs : List Nat) : Decidable (idxOk height xs) := inferInstanceAs (Decidable (_ ∧ _ ∧ _))
theorem idxTo_zero (height : Nat) (xs : List Nat) : idxTo height xs 0 := fun j h => absurd h (Nat.not_lt_zero _)
theorem idxTo_succ {height : Nat} {xs : List Nat} {k : Nat} (h : idxTo height xs k) (h1 : xs.getD k 0 < 2 ^ height) (h2 : 0 < k → xs.getD (k - 1) 0 < xs.getD k 0) : idxTo height xs (k + 1) := fun j hj => by
  rcases Nat.lt_or_ge j k with h3 | h3
  · exact h j h3
  · obtain rfl : j = k := by omega
    exact ⟨h1, h2⟩
theorem idxTo_lt {height : Nat} {xs : List Nat} {k : Nat} (h : idxTo height xs k) (hk : k ≤ xs.length) : ∀ (j i : Nat), i < j → j < k → xs.getD i 0 < xs.getD j 0
  | 0, i, hi, _ => absurd hi (Nat.not_lt_zero _)
  | j + 1, i, hi, hj => by
    have h1 := (h (j + 1) hj).2 (Nat.succ_pos _)
    rw [Nat.add_sub_cancel] at h1
    rcases Nat.lt_or_ge i j with h2 | h2
    · exact Nat.lt_trans (idxTo_lt h hk j i h2 (by omega)) h1
    · obtain rfl : i = j := by omega
      exact h1
theorem idxOk.rise {height : Nat} {xs : List Nat} (h : idxOk height xs) : xs.Pairwise (· < ·) :=
  List.pairwise_iff_getElem.2 fun i j hi hj hij => by
    have := idxTo_lt h.2.2 (Nat.le_refl _) j i hij hj
    rwa [show xs.getD i 0 = xs[i] by simp [List.getD, hi], show xs.getD j 0 = xs[j] by simp [List.getD, hj]] at this
theorem idxOk.low {height : Nat} {xs : List Nat} (h : idxOk height xs) : ∀ x ∈ xs, x < 2 ^ height := fun x hx => by
  obtain ⟨j, hj, rfl⟩ := List.mem_iff_getElem.1 hx
  have := (h.2.2 j hj).1
  rwa [show xs.getD j 0 = xs[j] by simp [List.getD, hj]] at this
theorem idxOk.root {height : Nat} {xs : List Nat} (h : idxOk height xs) : ∀ x ∈ xs, x / 2 ^ height = 0 := fun x hx => Nat.div_eq_of_lt (h.low x hx)
theorem idxOk.ne {height : Nat} {xs : List Nat} (h : idxOk height xs) : xs ≠ [] := fun e => by have := h.1; rw [e] at this; exact absurd this (by decide)
/-- The two children of a node of a tree. -/
theorem okAt_kids {height l p : Nat} (h : okAt height (l + 1, p)) : okAt height (l, 2 * p) ∧ okAt height (l, 2 * p + 1) := by
  obtain ⟨h1, h2⟩ := h
  have h1' : l + 1 ≤ height := h1
  have h2' : p < 2 ^ (height - (l + 1)) := h2
  have h3 := pow_split (height := height) (l := l) (by omega)
  refine ⟨⟨by show l ≤ height; omega, ?_⟩, ⟨by show l ≤ height; omega, ?_⟩⟩
  · show 2 * p < 2 ^ (height - l); omega
  · show 2 * p + 1 < 2 ^ (height - l); omega
/-- Nodes' places, in cells. -/
def sdL (s : Sd) : List Value := s.flatMap fun a => [.int .i64 (a.1 : Int), .int .u64 (a.2 : Int)]
theorem sdL_app (s t : Sd) : sdL (s ++ t) = sdL s ++ sdL t := List.flatMap_append
theorem sdL_len (s : Sd) : (sdL s).length = s.length * 2 := flat_len (encL := fun a : Nat × Nat => [.int .i64 (a.1 : Int), .int .u64 (a.2 : Int)]) (sz := 2) (fun _ => rfl) s
theorem sdL_one (s : Sd) : ∀ u ∈ sdL s, u.oneCell' = true := fun u hu => by
  obtain ⟨a, _, h⟩ := List.mem_flatMap.1 hu
  rcases List.mem_cons.1 h with rfl | h
  · rfl
  · rw [List.mem_singleton.1 h]; rfl
end Go.E
namespace Go.E
set_option linter.unusedVariables false
theorem rise_parts (l p : Nat) : ∀ xs : List Nat, xs.Pairwise (· < ·) → (∀ x ∈ xs, x / 2 ^ (l + 1) = p) → xs = cutN xs l (2 * p) ++ cutN xs l (2 * p + 1)
  | [], _, _ => rfl
  | x :: xs, hs, hx => by
    obtain ⟨h1, h2⟩ := List.pairwise_cons.1 hs
    have ih := rise_parts l p xs h2 (fun y hy => hx y (List.mem_cons_of_mem _ hy))
    have hp := hx x (List.mem_cons_self ..)
    rw [← half_step] at hp
    by_cases e : x / 2 ^ l = 2 * p
    · have a : cutN (x :: xs) l (2 * p) = x :: cutN xs l (2 * p) := by simp [cutN, e]
      have b : cutN (x :: xs) l (2 * p + 1) = cutN xs l (2 * p + 1) := by simp [cutN, e]
      rw [a, b, List.cons_append, ← ih]
    · have e1 : x / 2 ^ l = 2 * p + 1 := by omega
      have hD : ∀ y ∈ x :: xs, y / 2 ^ l = 2 * p + 1 := fun y hy => by
        rcases List.mem_cons.1 hy with rfl | hm
        · exact e1
        · have h3 := Nat.div_le_div_right (c := 2 ^ l) (Nat.le_of_lt (h1 y hm))
          have h4 := hx y hy
          rw [← half_step] at h4
          generalize y / 2 ^ l = b at h3 h4 ⊢
          omega
      rw [cutN_none (fun y hm => by rw [hD y hm]; omega), cutN_all hD, List.nil_append]
/-- The first one left of leaves and of hashes beside is taken at each end of the way. -/
def climbV : Nat → List Nat → Nat → List H32 → List H32 → H32
  | 0, xs, p, ls, bs => if xs = [] then bs.headD zeroH else ls.headD zeroH
  | l + 1, xs, p, ls, bs => if xs = [] then bs.headD zeroH else
      joinH (l + 1) (climbV l (cutN xs l (2 * p)) (2 * p) (ls.take (cutN xs l (2 * p)).length) (bs.take (spots l (cutN xs l (2 * p)) (2 * p)).length))
        (climbV l (cutN xs l (2 * p + 1)) (2 * p + 1) (ls.drop (cutN xs l (2 * p)).length) (bs.drop (spots l (cutN xs l (2 * p)) (2 * p)).length))
def climbT : Nat → List Nat → Nat → List H32 → List H32 → List (List UInt8)
  | 0, xs, p, ls, bs => []
  | l + 1, xs, p, ls, bs => if xs = [] then [] else
      climbT l (cutN xs l (2 * p)) (2 * p) (ls.take (cutN xs l (2 * p)).length) (bs.take (spots l (cutN xs l (2 * p)) (2 * p)).length) ++
      climbT l (cutN xs l (2 * p + 1)) (2 * p + 1) (ls.drop (cutN xs l (2 * p)).length) (bs.drop (spots l (cutN xs l (2 * p)) (2 * p)).length) ++
      [joinT (l + 1) (climbV l (cutN xs l (2 * p)) (2 * p) (ls.take (cutN xs l (2 * p)).length) (bs.take (spots l (cutN xs l (2 * p)) (2 * p)).length))
        (climbV l (cutN xs l (2 * p + 1)) (2 * p + 1) (ls.drop (cutN xs l (2 * p)).length) (bs.drop (spots l (cutN xs l (2 * p)) (2 * p)).length))]
theorem climbV_nil (l p : Nat) (ls bs : List H32) : climbV l [] p ls bs = bs.headD zeroH := by cases l <;> rfl
theorem climbT_nil (l p : Nat) (ls bs : List H32) : climbT l [] p ls bs = [] := by cases l <;> rfl
theorem climbV_zero {xs : List Nat} {p : Nat} {ls bs : List H32} (h : xs ≠ []) : climbV 0 xs p ls bs = ls.headD zeroH := if_neg h
theorem climbV_succ {xs : List Nat} {l p : Nat} {ls bs : List H32} (h : xs ≠ []) : climbV (l + 1) xs p ls bs =
      joinH (l + 1) (climbV l (cutN xs l (2 * p)) (2 * p) (ls.take (cutN xs l (2 * p)).length) (bs.take (spots l (cutN xs l (2 * p)) (2 * p)).length))
        (climbV l (cutN xs l (2 * p + 1)) (2 * p + 1) (ls.drop (cutN xs l (2 * p)).length) (bs.drop (spots l (cutN xs l (2 * p)) (2 * p)).length)) := if_neg h
theorem climbT_succ {xs : List Nat} {l p : Nat} {ls bs : List H32} (h : xs ≠ []) : climbT (l + 1) xs p ls bs =
      climbT l (cutN xs l (2 * p)) (2 * p) (ls.take (cutN xs l (2 * p)).length) (bs.take (spots l (cutN xs l (2 * p)) (2 * p)).length) ++
      climbT l (cutN xs l (2 * p + 1)) (2 * p + 1) (ls.drop (cutN xs l (2 * p)).length) (bs.drop (spots l (cutN xs l (2 * p)) (2 * p)).length) ++
      [joinT (l + 1) (climbV l (cutN xs l (2 * p)) (2 * p) (ls.take (cutN xs l (2 * p)).length) (bs.take (spots l (cutN xs l (2 * p)) (2 * p)).length))
        (climbV l (cutN xs l (2 * p + 1)) (2 * p + 1) (ls.drop (cutN xs l (2 * p)).length) (bs.drop (spots l (cutN xs l (2 * p)) (2 * p)).length))] := if_neg h
theorem climbT_len : ∀ (l : Nat) (xs : List Nat) (p : Nat) (ls bs : List H32), (climbT l xs p ls bs).length ≤ xs.length * l
  | 0, xs, p, ls, bs => Nat.zero_le _
  | l + 1, xs, p, ls, bs => by
    rw [climbT]
    split
    · exact Nat.zero_le _
    · rename_i h
      have h1 := climbT_len l (cutN xs l (2 * p)) (2 * p) (ls.take (cutN xs l (2 * p)).length) (bs.take (spots l (cutN xs l (2 * p)) (2 * p)).length)
      have h2 := climbT_len l (cutN xs l (2 * p + 1)) (2 * p + 1) (ls.drop (cutN xs l (2 * p)).length) (bs.drop (spots l (cutN xs l (2 * p)) (2 * p)).length)
      have h3 := cutN_two l p xs
      have h4 : 0 < xs.length := List.length_pos_iff.2 h
      have h5 : (cutN xs l (2 * p)).length * l + (cutN xs l (2 * p + 1)).length * l ≤ xs.length * l := by rw [← Nat.add_mul]; exact Nat.mul_le_mul_right _ h3
      rw [List.length_append, List.length_append, List.length_singleton, Nat.mul_succ]; omega
/-- The same, as the document finds it: by its place. -/
def refV (zs : List ((Nat × Nat) × H32)) (zl : List (Nat × H32)) : Nat → Nat → H32
  | 0, p => match look (0, p) zs with
    | some h => h
    | none => (look p zl).getD zeroH
  | l + 1, p => match look (l + 1, p) zs with
    | some h => h
    | none => joinH (l + 1) (refV zs zl l (2 * p)) (refV zs zl l (2 * p + 1))
def refT (zs : List ((Nat × Nat) × H32)) (zl : List (Nat × H32)) : Nat → Nat → List (List UInt8)
  | 0, p => []
  | l + 1, p => match look (l + 1, p) zs with
    | some h => []
    | none => refT zs zl l (2 * p) ++ refT zs zl l (2 * p + 1) ++ [joinT (l + 1) (refV zs zl l (2 * p)) (refV zs zl l (2 * p + 1))]
def under (l p : Nat) (a : Nat × Nat) : Prop := a.1 ≤ l ∧ a.2 / 2 ^ (l - a.1) = p
theorem under_up {l p q : Nat} {a : Nat × Nat} (h : under l q a) (hq : q / 2 = p) : under (l + 1) p a := by
  obtain ⟨h1, h2⟩ := h
  refine ⟨Nat.le_succ_of_le h1, ?_⟩
  rw [show l + 1 - a.1 = (l - a.1) + 1 by omega, ← half_step, h2, hq]
theorem spots_under : ∀ (l : Nat) (xs : List Nat) (p : Nat), ∀ a ∈ spots l xs p, under l p a
  | 0, xs, p, a, ha => by
    rw [spots] at ha
    split at ha
    · rw [List.mem_singleton.1 ha]; exact ⟨Nat.le_refl _, by simp⟩
    · cases ha
  | l + 1, xs, p, a, ha => by
    rw [spots] at ha
    split at ha
    · rw [List.mem_singleton.1 ha]; exact ⟨Nat.le_refl _, by simp⟩
    · rcases List.mem_append.1 ha with h1 | h1
      · exact under_up (spots_under l _ _ a h1) (by omega)
      · exact under_up (spots_under l _ _ a h1) (by omega)
theorem look_zip_none {κ : Type} [DecidableEq κ] (a : κ) : ∀ (s : List κ) (bs : List H32), a ∉ s → look a (s.zip bs) = none
  | [], bs, _ => by simp [look_nil]
  | x :: s, [], _ => by simp [look_nil]
  | x :: s, b :: bs, h => by
    rw [List.zip_cons_cons, look_cons, if_neg (fun e => h (by rw [e]; exact List.mem_cons_self ..))]
    exact look_zip_none a s bs (fun hm => h (List.mem_cons_of_mem _ hm))
/-- What the document reads of a node's part, in the lists of that part. -/
structure Part (zs : List ((Nat × Nat) × H32)) (zl : List (Nat × H32)) (l p : Nat) (xs : List Nat) (ls bs : List H32) : Prop where
  bes : ∀ a, under l p a → look a zs = look a ((spots l xs p).zip bs)
  lvs : ∀ x, x / 2 ^ l = p → look x zl = look x (xs.zip ls)
  len : ls.length = xs.length
  lenb : bs.length = (spots l xs p).length
  rise : xs.Pairwise (· < ·)
  all : ∀ x ∈ xs, x / 2 ^ l = p
variable {zs : List ((Nat × Nat) × H32)} {zl : List (Nat × H32)} {l p : Nat} {xs : List Nat} {ls bs : List H32}
theorem Part.found (h : Part zs zl l p [] ls bs) : look (l, p) zs = some (bs.headD zeroH) := by
  rw [h.bes (l, p) ⟨Nat.le_refl _, by simp⟩, spots_nil]
  have hl := h.lenb
  rw [spots_nil] at hl
  match bs, hl with
  | [b], _ => simp [look_cons]
theorem Part.leaf (h : Part zs zl 0 p xs ls bs) (hx : xs ≠ []) : look (0, p) zs = none ∧ look p zl = some (ls.headD zeroH) := by
  constructor
  · rw [h.bes (0, p) ⟨Nat.le_refl _, by simp⟩, spots_zero hx]; simp [look_nil]
  · rw [h.lvs p (by simp)]
    have hl := h.len
    match xs, ls, hl, hx, h.all with
    | x :: xs, y :: ls, _, _, ha =>
      have hp := ha x (List.mem_cons_self ..)
      rw [Nat.pow_zero, Nat.div_one] at hp
      simp [look_cons, hp]
theorem Part.none (h : Part zs zl (l + 1) p xs ls bs) (hx : xs ≠ []) : look (l + 1, p) zs = Option.none := by
  rw [h.bes (l + 1, p) ⟨Nat.le_refl _, by simp⟩]
  refine look_zip_none _ _ _ fun hm => ?_
  rw [spots_succ hx] at hm
  rcases List.mem_append.1 hm with h1 | h1
  · exact absurd (spots_under l _ _ _ h1).1 (Nat.not_succ_le_self l)
  · exact absurd (spots_under l _ _ _ h1).1 (Nat.not_succ_le_self l)
theorem Part.left (h : Part zs zl (l + 1) p xs ls bs) (hx : xs ≠ []) : Part zs zl l (2 * p) (cutN xs l (2 * p)) (ls.take (cutN xs l (2 * p)).length) (bs.take (spots l (cutN xs l (2 * p)) (2 * p)).length) := by
  have hb := h.lenb
  have hl := h.len
  rw [spots_succ hx, List.length_append] at hb
  have hp := rise_parts l p xs h.rise h.all
  have hn := congrArg List.length hp
  rw [List.length_append] at hn
  refine ⟨fun a ha => ?_, fun x hxx => ?_, by rw [List.length_take]; omega, by rw [List.length_take]; omega, cutN_rise h.rise, cutN_mem⟩
  · rw [h.bes a (under_up ha (by omega)), spots_succ hx]
    conv => lhs; rw [← List.take_append_drop (spots l (cutN xs l (2 * p)) (2 * p)).length bs]
    rw [List.zip_append (by rw [List.length_take]; omega), look_append, look_zip_none a (spots l (cutN xs l (2 * p + 1)) (2 * p + 1)) _ (fun hm => by have := (spots_under l _ _ a hm).2; rw [ha.2] at this; omega), Option.or_none]
  · rw [h.lvs x (by rw [← half_step, hxx]; omega)]
    conv => lhs; rw [hp, ← List.take_append_drop (cutN xs l (2 * p)).length ls]
    rw [List.zip_append (by rw [List.length_take]; omega), look_append, look_zip_none x (cutN xs l (2 * p + 1)) _ (fun hm => by have := cutN_mem x hm; omega), Option.or_none]
theorem Part.right (h : Part zs zl (l + 1) p xs ls bs) (hx : xs ≠ []) : Part zs zl l (2 * p + 1) (cutN xs l (2 * p + 1)) (ls.drop (cutN xs l (2 * p)).length) (bs.drop (spots l (cutN xs l (2 * p)) (2 * p)).length) := by
  have hb := h.lenb
  have hl := h.len
  rw [spots_succ hx, List.length_append] at hb
  have hp := rise_parts l p xs h.rise h.all
  have hn := congrArg List.length hp
  rw [List.length_append] at hn
  refine ⟨fun a ha => ?_, fun x hxx => ?_, by rw [List.length_drop]; omega, by rw [List.length_drop]; omega, cutN_rise h.rise, cutN_mem⟩
  · rw [h.bes a (under_up ha (by omega)), spots_succ hx]
    conv => lhs; rw [← List.take_append_drop (spots l (cutN xs l (2 * p)) (2 * p)).length bs]
    rw [List.zip_append (by rw [List.length_take]; omega), look_append, look_zip_none a (spots l (cutN xs l (2 * p)) (2 * p)) _ (fun hm => by have := (spots_under l _ _ a hm).2; rw [ha.2] at this; omega), Option.none_or]
  · rw [h.lvs x (by rw [← half_step, hxx]; omega)]
    conv => lhs; rw [hp, ← List.take_append_drop (cutN xs l (2 * p)).length ls]
    rw [List.zip_append (by rw [List.length_take]; omega), look_append, look_zip_none x (cutN xs l (2 * p)) _ (fun hm => by have := cutN_mem x hm; omega), Option.none_or]
theorem Part.val : ∀ (l p : Nat) (xs : List Nat) (ls bs : List H32), Part zs zl l p xs ls bs → refV zs zl l p = climbV l xs p ls bs
  | 0, p, xs, ls, bs, h => by
    by_cases hx : xs = []
    · subst hx; rw [refV, h.found, climbV_nil]
    · rw [refV, (h.leaf hx).1, climbV_zero hx]; simp only [(h.leaf hx).2, Option.getD_some]
  | l + 1, p, xs, ls, bs, h => by
    by_cases hx : xs = []
    · subst hx; rw [refV, h.found, climbV_nil]
    · rw [refV, h.none hx, climbV_succ hx]
      simp only [Part.val l _ _ _ _ (h.left hx), Part.val l _ _ _ _ (h.right hx)]
theorem Part.txt : ∀ (l p : Nat) (xs : List Nat) (ls bs : List H32), Part zs zl l p xs ls bs → refT zs zl l p = climbT l xs p ls bs
  | 0, p, xs, ls, bs, h => rfl
  | l + 1, p, xs, ls, bs, h => by
    by_cases hx : xs = []
    · subst hx; rw [refT, h.found, climbT_nil]
    · rw [refT, h.none hx, climbT_succ hx]
      simp only [Part.val l _ _ _ _ (h.left hx), Part.val l _ _ _ _ (h.right hx), Part.txt l _ _ _ _ (h.left hx), Part.txt l _ _ _ _ (h.right hx)]
theorem Part.start {height : Nat} {xs : List Nat} {ls bs : List H32} (h : idxOk height xs) (hl : ls.length = xs.length) (hb : bs.length = (spots height xs 0).length) : Part ((spots height xs 0).zip bs) (xs.zip ls) height 0 xs ls bs :=
  ⟨fun _ _ => rfl, fun _ _ => rfl, hl, hb, h.rise, h.root⟩
end Go.E
namespace Go.E
set_option linter.unusedVariables false
theorem u64s_get1 {xs : List Nat} {k : Nat} (h : k < xs.length) : (u64s xs)[k * 1]? = some (.int .u64 ((xs.getD k 0 : Nat) : Int)) := u64s_get h (Nat.mul_one k)
theorem u64s_take (xs : List Nat) (k : Nat) : (u64s xs).take k = u64s (xs.take k) := by simp [u64s]
theorem u64s_one (xs : List Nat) : ∀ u ∈ u64s xs, u.oneCell' = true := fun u hu => by
  obtain ⟨x, _, rfl⟩ := List.mem_map.1 hu; rfl
theorem Ro.take {w : World} {M : List Nat} {A : Option Addr} {cs : List Value} (h : Ro w M (SlA A cs)) (k : Nat) : Ro w M (SlA A (cs.take k)) :=
  ⟨SlA.take h.1 k, fun b hb => h.2 b (by
    rw [SlA_fp] at hb ⊢
    obtain ⟨a, rfl, rfl, hne⟩ := mem_slfp hb
    exact in_slfp (fun e => hne (by rw [e]; simp)))⟩
theorem Ro.cut {w : World} {M : List Nat} {A : Option Addr} {cs : List Value} (h : Ro w M (SlA A cs)) {c l k : Nat} (hc : c = l → cs.length ≤ k) : Ro w M (SlA (if c = l then A else A.map (·.add k)) (cs.drop k)) :=
  ⟨SlA.cut h.1 hc, fun b hb => h.2 b (by
    rw [SlA_fp] at hb ⊢
    obtain ⟨a, ha, rfl, hne⟩ := mem_slfp hb
    have hcs : cs ≠ [] := fun e => hne (by rw [e]; simp)
    split at ha
    · subst ha; exact in_slfp hcs
    · cases A with
      | none => cases ha
      | some a' =>
        injection ha with ha
        subst ha
        rw [add_block]; exact in_slfp hcs)⟩
theorem Ro.slnil (w : World) (M : List Nat) (A : Option Addr) : Ro w M (SlA A []) := ⟨fun j u hj => by simp at hj, fun b hb => by rw [SlA_fp] at hb; obtain ⟨x, hx, _, h⟩ := mem_slfp hb; exact absurd rfl h⟩
theorem St.next {W w0 w : World} {M : List Nat} {L0 L : List Assn} (h : St W M L0 w0) (k : St w0 (fps L0) L w) : St W M L w := by
  have := St.frame (R := []) (by rw [List.append_nil]; exact h) k
  rwa [List.append_nil] at this
theorem st_app {w0 w : World} {M : List Nat} {L : List Assn} (h : St w0 M (L ++ []) w) : St w0 M L w := by rwa [List.append_nil] at h
theorem perm_app (L : List Assn) : List.Perm L (L ++ []) := by rw [List.append_nil]
theorem lt_of_div0 {x h : Nat} (e : x / 2 ^ h = 0) : x < 2 ^ h := (Nat.div_eq_zero_iff_lt (Nat.two_pow_pos h)).1 e
theorem below_lt {x l p : Nat} (h : x / 2 ^ l = p) : x < (p + 1) * 2 ^ l := by
  rw [← h, Nat.add_mul, Nat.one_mul]
  have := Nat.div_add_mod x (2 ^ l)
  have h2 := Nat.mod_lt x (Nat.two_pow_pos l)
  rw [Nat.mul_comm] at this; omega
theorem below_u64 {height l p x : Nat} (hh : height ≤ 32) (ho : okAt height (l, p)) (h : x / 2 ^ l = p) : x < 9223372036854775808 := Nat.lt_of_lt_of_le (below_lt h) (okAt_bound hh ho)
/-- What a closure that is told of nodes does: J keeps what it was told. -/
def FndC (P : Program) (fn : FuncId) (cp : Array Value) (height : Nat) (J : Sd → List Assn → Prop) (W : World) (M : List Nat) (B : Nat) : Prop :=
  ∀ (a : Nat × Nat) (done : Sd) (L : List Assn) (w : World), okAt height a → done.length < B → J done L → St W M L w →
    Calls P fn ((([.int .i64 (a.1 : Int), .int .u64 (a.2 : Int)] : List Value) ++ cp.toList).toArray) w (Post w (fps L) fun v L' => J (done ++ [a]) L')
def BesC (P : Program) (g : FuncId) (fn : FuncId) (cp : Array Value) (height : Nat) (J : Sd → List Assn → Prop) (W : World) (M : List Nat) (B : Nat) (l : Nat) : Prop :=
  ∀ (p : Nat) (xs : List Nat) (A : Option Addr) (c : Nat) (done : Sd) (L0 : List Assn) (w0 : World), okAt height (l, p) → xs.Pairwise (· < ·) → (∀ x ∈ xs, x / 2 ^ l = p) → xs.length ≤ c → xs.length ≤ 256 → Sat w0 L0 →
    Ro w0 (fps L0) (SlA A (u64s xs)) → J done L0 → St W M L0 w0 → done.length + (spots l xs p).length ≤ B →
    Calls P g #[.slice A xs.length c, .int .i64 (l : Int), .int .u64 (p : Int), .func (.func fn) #[] cp] w0 (Post w0 (fps L0) fun v L => J (done ++ spots l xs p) L)
/-- What the search for the first index that has something finds. -/
structure FoundI (xs : List Nat) (q : Nat → Bool) (z : Int) : Prop where
  no : z < 0 → ∀ j, j < xs.length → q (xs.getD j 0) = false
  yes : ¬ z < 0 → ∃ i : Nat, z = (i : Int) ∧ i < xs.length ∧ (∀ j, j < i → q (xs.getD j 0) = false) ∧ q (xs.getD i 0) = true
end Go.E
namespace Go.E
set_option linter.unusedVariables false
theorem rise_one {p : Nat} : ∀ {xs : List Nat}, xs.Pairwise (· < ·) → (∀ x ∈ xs, x / 2 ^ 0 = p) → xs.length ≤ 1
  | [], _, _ => Nat.zero_le _
  | [_], _, _ => Nat.le_refl _
  | x :: y :: xs, h, ha => by
    have h1 := List.rel_of_pairwise_cons h (List.mem_cons_self (a := y) (l := xs))
    have h2 := ha x (List.mem_cons_self ..)
    have h3 := ha y (List.mem_cons_of_mem _ (List.mem_cons_self ..))
    rw [Nat.pow_zero, Nat.div_one] at h2 h3
    omega
theorem headD_take {ls : List H32} {n : Nat} (h : 0 < n) : (ls.take n).headD zeroH = ls.getD 0 zeroH := by
  cases ls with
  | nil => simp
  | cons x l => cases n with
    | zero => exact absurd h (Nat.lt_irrefl _)
    | succ n => simp
/-- A text, and where it lies. -/
abbrev Tx := Option Addr × Nat × List UInt8
def txL (t : Tx) : List Value := [.slice t.1 t.2.2.length t.2.1]
def txOwn (t : Tx) : Assn := OwnA 5 1 t.1 t.2.2.length t.2.1 (bytesL t.2.2)
theorem txL_len (ts : List Tx) : (ts.flatMap txL).length = ts.length := by
  induction ts with
  | nil => rfl
  | cons t ts ih => rw [List.flatMap_cons, List.length_append, ih]; simp [txL]; omega
theorem txL_at {ts : List Tx} {k : Nat} (h : k < ts.length) : (ts.flatMap txL)[k * 1]? = some (.slice (ts.getD k (none, 0, [])).1 (ts.getD k (none, 0, [])).2.2.length (ts.getD k (none, 0, [])).2.1) := by
  have := flat_at (encL := txL) (sz := 1) (fun _ => rfl) ts k _ (getD_some (none, 0, []) h) 0 _ rfl
  simpa using this
/-- What stands where a climber climbs. -/
def climbL (T TT : TypeId) (cb : Nat) (A1 : Option Addr) (lr : List H32) (c1 : Nat) (A2 : Option Addr) (br : List H32) (c2 : Nat) (O : Option Addr) (tt : List Tx) (d : Nat) : List Assn :=
  [Blk cb T [.slice A1 lr.length c1, .slice A2 br.length c2, .slice O tt.length d], OwnA TT 1 O tt.length d (tt.flatMap txL), Many (tt.map txOwn)]
/-- Less of a list that is read. -/
structure Less (A : Option Addr) (l : List H32) (n : Nat) (A' : Option Addr) (c' : Nat) : Prop where
  ro : ∀ w M, Ro w M (SlA A (hcs l)) → Ro w M (SlA A' (hcs (l.drop n)))
  cap : (l.drop n).length ≤ c'
theorem Less.zero {A : Option Addr} {l : List H32} {c : Nat} (h : l.length ≤ c) : Less A l 0 A c := ⟨fun w M h => h, h⟩
theorem Less.next {A A' A'' : Option Addr} {l : List H32} {n m c' c'' : Nat} (h : Less A l n A' c') (k : Less A' (l.drop n) m A'' c'') : Less A l (n + m) A'' c'' :=
  ⟨fun w M r => by have := k.ro w M (h.ro w M r); rwa [List.drop_drop] at this, by have := k.cap; rwa [List.drop_drop] at this⟩
theorem Less.one {A : Option Addr} {l : List H32} {c : Nat} (h : l.length ≤ c) (h0 : 0 < l.length) : Less A l 1 (if c = 1 then A else A.map (·.add (1 * 32))) (c - 1) :=
  ⟨fun w M r => by
    have h2 := r.cut (c := c) (l := 1) (k := 1 * 32) (fun e => by rw [hcs_length]; omega)
    rwa [hcs_drop] at h2, by rw [List.length_drop]; omega⟩
/-- The parts of what is left that a node's two halves take. -/
theorem climbV_parts {xs : List Nat} {l p : Nat} {lr br : List H32} (hx : xs ≠ []) (hs : xs.Pairwise (· < ·)) (ha : ∀ x ∈ xs, x / 2 ^ (l + 1) = p) :
    climbV (l + 1) xs p (lr.take xs.length) (br.take (spots (l + 1) xs p).length) =
      joinH (l + 1) (climbV l (cutN xs l (2 * p)) (2 * p) (lr.take (cutN xs l (2 * p)).length) (br.take (spots l (cutN xs l (2 * p)) (2 * p)).length))
        (climbV l (cutN xs l (2 * p + 1)) (2 * p + 1) ((lr.drop (cutN xs l (2 * p)).length).take (cutN xs l (2 * p + 1)).length) ((br.drop (spots l (cutN xs l (2 * p)) (2 * p)).length).take (spots l (cutN xs l (2 * p + 1)) (2 * p + 1)).length)) ∧
    climbT (l + 1) xs p (lr.take xs.length) (br.take (spots (l + 1) xs p).length) =
      climbT l (cutN xs l (2 * p)) (2 * p) (lr.take (cutN xs l (2 * p)).length) (br.take (spots l (cutN xs l (2 * p)) (2 * p)).length) ++
      climbT l (cutN xs l (2 * p + 1)) (2 * p + 1) ((lr.drop (cutN xs l (2 * p)).length).take (cutN xs l (2 * p + 1)).length) ((br.drop (spots l (cutN xs l (2 * p)) (2 * p)).length).take (spots l (cutN xs l (2 * p + 1)) (2 * p + 1)).length) ++
      [joinT (l + 1) (climbV l (cutN xs l (2 * p)) (2 * p) (lr.take (cutN xs l (2 * p)).length) (br.take (spots l (cutN xs l (2 * p)) (2 * p)).length))
        (climbV l (cutN xs l (2 * p + 1)) (2 * p + 1) ((lr.drop (cutN xs l (2 * p)).length).take (cutN xs l (2 * p + 1)).length) ((br.drop (spots l (cutN xs l (2 * p)) (2 * p)).length).take (spots l (cutN xs l (2 * p + 1)) (2 * p + 1)).length))] := by
  have hn := congrArg List.length (rise_parts l p xs hs ha)
  rw [List.length_append] at hn
  have e : ∀ (zs : List H32) (a b : Nat), (zs.take (a + b)).take a = zs.take a := fun zs a b => by rw [List.take_take]; congr 1; omega
  have f : ∀ (zs : List H32) (a b : Nat), (zs.take (a + b)).drop a = (zs.drop a).take b := fun zs a b => by rw [List.drop_take]; congr 1; omega
  have g : (spots (l + 1) xs p).length = (spots l (cutN xs l (2 * p)) (2 * p)).length + (spots l (cutN xs l (2 * p + 1)) (2 * p + 1)).length := by rw [spots_succ hx, List.length_append]
  rw [climbV_succ hx, climbT_succ hx, g, hn, e, f, e, f]
  exact ⟨rfl, rfl⟩
/-- The root and the error's number. -/
def rootN (height : Nat) (xs : List Nat) (ls bs : List H32) : H32 × Nat :=
  if idxOk height xs then if ls.length ≠ xs.length then (zeroH, 2) else if bs.length ≠ (spots height xs 0).length then (zeroH, 5) else (climbV height xs 0 ls bs, 0) else (zeroH, 1)
def rootR (z : Int) (xs : List Nat) (ls bs : List H32) : H32 × Nat := if z < 0 ∨ 32 < z then (zeroH, 1) else rootN z.toNat xs ls bs
def textR (z : Int) (xs : List Nat) (ls bs : List H32) : List (List UInt8) := if (rootR z xs ls bs).2 = 0 then climbT z.toNat xs 0 ls bs else []
theorem rootR_nat {height : Nat} (hh : height ≤ 32) (xs : List Nat) (ls bs : List H32) : rootR (height : Int) xs ls bs = rootN height xs ls bs := by
  rw [rootR, if_neg (by omega), Int.toNat_natCast]
theorem rootN_1 {height : Nat} {xs : List Nat} {ls bs : List H32} (h : ¬ idxOk height xs) : rootN height xs ls bs = (zeroH, 1) := if_neg h
theorem rootN_2 {height : Nat} {xs : List Nat} {ls bs : List H32} (h : idxOk height xs) (h2 : ls.length ≠ xs.length) : rootN height xs ls bs = (zeroH, 2) := by rw [rootN, if_pos h, if_pos h2]
theorem rootN_5 {height : Nat} {xs : List Nat} {ls bs : List H32} (h : idxOk height xs) (h2 : ls.length = xs.length) (h3 : bs.length ≠ (spots height xs 0).length) : rootN height xs ls bs = (zeroH, 5) := by rw [rootN, if_pos h, if_neg (fun k => k h2), if_pos h3]
theorem rootN_0 {height : Nat} {xs : List Nat} {ls bs : List H32} (h : idxOk height xs) (h2 : ls.length = xs.length) (h3 : bs.length = (spots height xs 0).length) : rootN height xs ls bs = (climbV height xs 0 ls bs, 0) := by rw [rootN, if_pos h, if_neg (fun k => k h2), if_neg (fun k => k h3)]
variable {C : Ctx} {Q : EQ} {env : Env} {ops : Array Oper}
theorem TL.manyJoin {A : Assn} {L R L0 : List Assn} {l : List Oper} (s : L0.Perm (A :: Many L :: R)) (h : TL C ops Q l env (Many (L ++ [A]) :: R)) : TL C ops Q l env L0 := fun a w ha hw => h a w ha ((hw.perm s).many_join)
end Go.E
