/-
  Plain words: the nodes of a proof. Plain words: what leaves and a proof come to. Indices in a slice that is read: parts of it; the closures of a walk over a proof's nodes.
-/
import Derived.Test.YtaoicbjgkghnnaaTP
import Derived.Test.YtaoicbjgkghnnaaE2
import Derived.Test.YtaoicbjgkghnnaaMO
namespace Go.E
set_option linter.unusedVariables false
/-- Those below a node. -/
def cutN (xs : List Nat) (l q : Nat) : List Nat := xs.filter fun x => x / 2 ^ l == q
theorem cutN_mem {xs : List Nat} {l q : Nat} : ∀ x ∈ cutN xs l q, x / 2 ^ l = q := fun x hx => by
  have := (List.mem_filter.1 hx).2; simpa using this
theorem cutN_rise {xs : List Nat} {l q : Nat} (h : xs.Pairwise (· < ·)) : (cutN xs l q).Pairwise (· < ·) := h.sublist List.filter_sublist
theorem cutN_all {xs : List Nat} {l p : Nat} (h : ∀ x ∈ xs, x / 2 ^ l = p) : cutN xs l p = xs := List.filter_eq_self.2 fun x hx => by simpa using h x hx
theorem cutN_none {xs : List Nat} {l p : Nat} (h : ∀ x ∈ xs, x / 2 ^ l ≠ p) : cutN xs l p = [] := List.filter_eq_nil_iff.2 fun x hx => by simpa using h x hx
/-- The nodes beside indices, in their order. -/
def spots : Nat → List Nat → Nat → Sd
  | 0, xs, p => if xs = [] then [(0, p)] else []
  | l + 1, xs, p => if xs = [] then [(l + 1, p)] else spots l (cutN xs l (2 * p)) (2 * p) ++ spots l (cutN xs l (2 * p + 1)) (2 * p + 1)
theorem spots_nil (l p : Nat) : spots l [] p = [(l, p)] := by cases l <;> rfl
theorem spots_zero {xs : List Nat} {p : Nat} (h : xs ≠ []) : spots 0 xs p = [] := if_neg h
theorem spots_succ {xs : List Nat} {l p : Nat} (h : xs ≠ []) : spots (l + 1) xs p = spots l (cutN xs l (2 * p)) (2 * p) ++ spots l (cutN xs l (2 * p + 1)) (2 * p + 1) := if_neg h
/-- Indices that are right for a height. -/
def idxTo (height : Nat) (xs : List Nat) (k : Nat) : Prop := ∀ j, j < k → xs.getD j 0 < 2 ^ height ∧ (0 < j → xs.getD (j - 1) 0 < xs.getD j 0)
instance (height : Nat) (xs : List Nat) (k : Nat) : Decidable (idxTo height xs k) := inferInstanceAs (Decidable (∀ j, j < k → _))
def idxOk (height : Nat) (xs : List Nat) : Prop := 1 ≤ xs.length ∧ xs.length ≤ 256 ∧ idxTo height xs xs.length
instance (height : Nat) (xs : List Nat) : Decidable (idxOk height xs) := inferInstanceAs (Decidable (_ ∧ _ ∧ _))
theorem idxTo_lt {height : Nat} {xs : List Nat} {k : Nat} (h : idxTo height xs k) (hk : k ≤ xs.length) : ∀ (j i : Nat), i < j → j < k → xs.getD i 0 < xs.getD j 0
  | 0, i, hi, _ => absurd hi (Nat.not_lt_zero _)
  | j + 1, i, hi, hj => by
    have h1 := (h (j + 1) hj).2 (Nat.succ_pos _)
    rw [Nat.add_sub_cancel] at h1
    rcases Nat.lt_or_ge i j with h2 | h2
    · exact Nat.lt_trans (idxTo_lt h hk j i h2 (by omega)) h1
    · obtain rfl : i = j := by omega
      exact h1
theorem idxOk.rise {height : Nat} {xs : List Nat} (h : idxOk height xs) : xs.Pairwise (· < ·) :=
  List.pairwise_iff_getElem.2 fun i j hi hj hij => by
    have := idxTo_lt h.2.2 (Nat.le_refl _) j i hij hj
    rwa [show xs.getD i 0 = xs[i] by simp [List.getD, hi], show xs.getD j 0 = xs[j] by simp [List.getD, hj]] at this
theorem idxOk.low {height : Nat} {xs : List Nat} (h : idxOk height xs) : ∀ x ∈ xs, x < 2 ^ height := fun x hx => by
  obtain ⟨j, hj, rfl⟩ := List.mem_iff_getElem.1 hx
  have := (h.2.2 j hj).1
  rwa [show xs.getD j 0 = xs[j] by simp [List.getD, hj]] at this
theorem idxOk.root {height : Nat} {xs : List Nat} (h : idxOk height xs) : ∀ x ∈ xs, x / 2 ^ height = 0 := fun x hx => Nat.div_eq_of_lt (h.low x hx)
theorem idxOk.ne {height : Nat} {xs : List Nat} (h : idxOk height xs) : xs ≠ [] := fun e => by have := h.1; rw [e] at this; exact absurd this (by decide)
end Go.E
namespace Go.E
set_option linter.unusedVariables false
theorem rise_parts (l p : Nat) : ∀ xs : List Nat, xs.Pairwise (· < ·) → (∀ x ∈ xs, x / 2 ^ (l + 1) = p) → xs = cutN xs l (2 * p) ++ cutN xs l (2 * p + 1)
  | [], _, _ => rfl
  | x :: xs, hs, hx => by
    obtain ⟨h1, h2⟩ := List.pairwise_cons.1 hs
    have ih := rise_parts l p xs h2 (fun y hy => hx y (List.mem_cons_of_mem _ hy))
    have hp := hx x (List.mem_cons_self ..)
    rw [← half_step] at hp
    by_cases e : x / 2 ^ l = 2 * p
    · have a : cutN (x :: xs) l (2 * p) = x :: cutN xs l (2 * p) := by simp [cutN, e]
      have b : cutN (x :: xs) l (2 * p + 1) = cutN xs l (2 * p + 1) := by simp [cutN, e]
      rw [a, b, List.cons_append, ← ih]
    · have e1 : x / 2 ^ l = 2 * p + 1 := by omega
      have hD : ∀ y ∈ x :: xs, y / 2 ^ l = 2 * p + 1 := fun y hy => by
        rcases List.mem_cons.1 hy with rfl | hm
        · exact e1
        · have h3 := Nat.div_le_div_right (c := 2 ^ l) (Nat.le_of_lt (h1 y hm))
          have h4 := hx y hy
          rw [← half_step] at h4
          generalize y / 2 ^ l = b at h3 h4 ⊢
          omega
      rw [cutN_none (fun y hm => by rw [hD y hm]; omega), cutN_all hD, List.nil_append]
/-- The first one left of leaves and of hashes beside is taken at each end of the way. -/
def climbV : Nat → List Nat → Nat → List H32 → List H32 → H32
  | 0, xs, p, ls, bs => if xs = [] then bs.headD zeroH else ls.headD zeroH
  | l + 1, xs, p, ls, bs => if xs = [] then bs.headD zeroH else
      joinH (l + 1) (climbV l (cutN xs l (2 * p)) (2 * p) (ls.take (cutN xs l (2 * p)).length) (bs.take (spots l (cutN xs l (2 * p)) (2 * p)).length))
        (climbV l (cutN xs l (2 * p + 1)) (2 * p + 1) (ls.drop (cutN xs l (2 * p)).length) (bs.drop (spots l (cutN xs l (2 * p)) (2 * p)).length))
theorem climbV_nil (l p : Nat) (ls bs : List H32) : climbV l [] p ls bs = bs.headD zeroH := by cases l <;> rfl
theorem climbV_zero {xs : List Nat} {p : Nat} {ls bs : List H32} (h : xs ≠ []) : climbV 0 xs p ls bs = ls.headD zeroH := if_neg h
theorem climbV_succ {xs : List Nat} {l p : Nat} {ls bs : List H32} (h : xs ≠ []) : climbV (l + 1) xs p ls bs =
      joinH (l + 1) (climbV l (cutN xs l (2 * p)) (2 * p) (ls.take (cutN xs l (2 * p)).length) (bs.take (spots l (cutN xs l (2 * p)) (2 * p)).length))
        (climbV l (cutN xs l (2 * p + 1)) (2 * p + 1) (ls.drop (cutN xs l (2 * p)).length) (bs.drop (spots l (cutN xs l (2 * p)) (2 * p)).length)) := if_neg h
/-- The same, as the document finds it: by its place. -/
def refV (zs : List ((Nat × Nat) × H32)) (zl : List (Nat × H32)) : Nat → Nat → H32
  | 0, p => match look (0, p) zs with
    | some h => h
    | none => (look p zl).getD zeroH
  | l + 1, p => match look (l + 1, p) zs with
    | some h => h
    | none => joinH (l + 1) (refV zs zl l (2 * p)) (refV zs zl l (2 * p + 1))
def under (l p : Nat) (a : Nat × Nat) : Prop := a.1 ≤ l ∧ a.2 / 2 ^ (l - a.1) = p
theorem under_up {l p q : Nat} {a : Nat × Nat} (h : under l q a) (hq : q / 2 = p) : under (l + 1) p a := by
  obtain ⟨h1, h2⟩ := h
  refine ⟨Nat.le_succ_of_le h1, ?_⟩
  rw [show l + 1 - a.1 = (l - a.1) + 1 by omega, ← half_step, h2, hq]
theorem spots_under : ∀ (l : Nat) (xs : List Nat) (p : Nat), ∀ a ∈ spots l xs p, under l p a
  | 0, xs, p, a, ha => by
    rw [spots] at ha
    split at ha
    · rw [List.mem_singleton.1 ha]; exact ⟨Nat.le_refl _, by simp⟩
    · cases ha
  | l + 1, xs, p, a, ha => by
    rw [spots] at ha
    split at ha
    · rw [List.mem_singleton.1 ha]; exact ⟨Nat.le_refl _, by simp⟩
    · rcases List.mem_append.1 ha with h1 | h1
      · exact under_up (spots_under l _ _ a h1) (by omega)
      · exact under_up (spots_under l _ _ a h1) (by omega)
theorem look_zip_none {κ : Type} [DecidableEq κ] (a : κ) : ∀ (s : List κ) (bs : List H32), a ∉ s → look a (s.zip bs) = none
  | [], bs, _ => by simp [look_nil]
  | x :: s, [], _ => by simp [look_nil]
  | x :: s, b :: bs, h => by
    rw [List.zip_cons_cons, look_cons, if_neg (fun e => h (by rw [e]; exact List.mem_cons_self ..))]
    exact look_zip_none a s bs (fun hm => h (List.mem_cons_of_mem _ hm))
/-- What the document reads of a node's part, in the lists of that part. -/
structure Part (zs : List ((Nat × Nat) × H32)) (zl : List (Nat × H32)) (l p : Nat) (xs : List Nat) (ls bs : List H32) : Prop where
  bes : ∀ a, under l p a → look a zs = look a ((spots l xs p).zip bs)
  lvs : ∀ x, x / 2 ^ l = p → look x zl = look x (xs.zip ls)
  len : ls.length = xs.length
  lenb : bs.length = (spots l xs p).length
  rise : xs.Pairwise (· < ·)
  all : ∀ x ∈ xs, x / 2 ^ l = p
variable {zs : List ((Nat × Nat) × H32)} {zl : List (Nat × H32)} {l p : Nat} {xs : List Nat} {ls bs : List H32}
theorem Part.found (h : Part zs zl l p [] ls bs) : look (l, p) zs = some (bs.headD zeroH) := by
  rw [h.bes (l, p) ⟨Nat.le_refl _, by simp⟩, spots_nil]
  have hl := h.lenb
  rw [spots_nil] at hl
  match bs, hl with
  | [b], _ => simp [look_cons]
theorem Part.leaf (h : Part zs zl 0 p xs ls bs) (hx : xs ≠ []) : look (0, p) zs = none ∧ look p zl = some (ls.headD zeroH) := by
  constructor
  · rw [h.bes (0, p) ⟨Nat.le_refl _, by simp⟩, spots_zero hx]; simp [look_nil]
  · rw [h.lvs p (by simp)]
    have hl := h.len
    match xs, ls, hl, hx, h.all with
    | x :: xs, y :: ls, _, _, ha =>
      have hp := ha x (List.mem_cons_self ..)
      rw [Nat.pow_zero, Nat.div_one] at hp
      simp [look_cons, hp]
theorem Part.none (h : Part zs zl (l + 1) p xs ls bs) (hx : xs ≠ []) : look (l + 1, p) zs = Option.none := by
  rw [h.bes (l + 1, p) ⟨Nat.le_refl _, by simp⟩]
  refine look_zip_none _ _ _ fun hm => ?_
  rw [spots_succ hx] at hm
  rcases List.mem_append.1 hm with h1 | h1
  · exact absurd (spots_under l _ _ _ h1).1 (Nat.not_succ_le_self l)
  · exact absurd (spots_under l _ _ _ h1).1 (Nat.not_succ_le_self l)
theorem Part.left (h : Part zs zl (l + 1) p xs ls bs) (hx : xs ≠ []) : Part zs zl l (2 * p) (cutN xs l (2 * p)) (ls.take (cutN xs l (2 * p)).length) (bs.take (spots l (cutN xs l (2 * p)) (2 * p)).length) := by
  have hb := h.lenb
  have hl := h.len
  rw [spots_succ hx, List.length_append] at hb
  have hp := rise_parts l p xs h.rise h.all
  have hn := congrArg List.length hp
  rw [List.length_append] at hn
  refine ⟨fun a ha => ?_, fun x hxx => ?_, by rw [List.length_take]; omega, by rw [List.length_take]; omega, cutN_rise h.rise, cutN_mem⟩
  · rw [h.bes a (under_up ha (by omega)), spots_succ hx]
    conv => lhs; rw [← List.take_append_drop (spots l (cutN xs l (2 * p)) (2 * p)).length bs]
    rw [List.zip_append (by rw [List.length_take]; omega), look_append, look_zip_none a (spots l (cutN xs l (2 * p + 1)) (2 * p + 1)) _ (fun hm => by have := (spots_under l _ _ a hm).2; rw [ha.2] at this; omega), Option.or_none]
  · rw [h.lvs x (by rw [← half_step, hxx]; omega)]
    conv => lhs; rw [hp, ← List.take_append_drop (cutN xs l (2 * p)).length ls]
    rw [List.zip_append (by rw [List.length_take]; omega), look_append, look_zip_none x (cutN xs l (2 * p + 1)) _ (fun hm => by have := cutN_mem x hm; omega), Option.or_none]
theorem Part.right (h : Part zs zl (l + 1) p xs ls bs) (hx : xs ≠ []) : Part zs zl l (2 * p + 1) (cutN xs l (2 * p + 1)) (ls.drop (cutN xs l (2 * p)).length) (bs.drop (spots l (cutN xs l (2 * p)) (2 * p)).length) := by
  have hb := h.lenb
  have hl := h.len
  rw [spots_succ hx, List.length_append] at hb
  have hp := rise_parts l p xs h.rise h.all
  have hn := congrArg List.length hp
  rw [List.length_append] at hn
  refine ⟨fun a ha => ?_, fun x hxx => ?_, by rw [List.length_drop]; omega, by rw [List.length_drop]; omega, cutN_rise h.rise, cutN_mem⟩
  · rw [h.bes a (under_up ha (by omega)), spots_succ hx]
    conv => lhs; rw [← List.take_append_drop (spots l (cutN xs l (2 * p)) (2 * p)).length bs]
    rw [List.zip_append (by rw [List.length_take]; omega), look_append, look_zip_none a (spots l (cutN xs l (2 * p)) (2 * p)) _ (fun hm => by have := (spots_under l _ _ a hm).2; rw [ha.2] at this; omega), Option.none_or]
  · rw [h.lvs x (by rw [← half_step, hxx]; omega)]
    conv => lhs; rw [hp, ← List.take_append_drop (cutN xs l (2 * p)).length ls]
    rw [List.zip_append (by rw [List.length_take]; omega), look_append, look_zip_none x (cutN xs l (2 * p)) _ (fun hm => by have := cutN_mem x hm; omega), Option.none_or]
theorem Part.val : ∀ (l p : Nat) (xs : List Nat) (ls bs : List H32), Part zs zl l p xs ls bs → refV zs zl l p = climbV l xs p ls bs
  | 0, p, xs, ls, bs, h => by
    by_cases hx : xs = []
    · subst hx; rw [refV, h.found, climbV_nil]
    · rw [refV, (h.leaf hx).1, climbV_zero hx]; simp only [(h.leaf hx).2, Option.getD_some]
  | l + 1, p, xs, ls, bs, h => by
    by_cases hx : xs = []
    · subst hx; rw [refV, h.found, climbV_nil]
    · rw [refV, h.none hx, climbV_succ hx]
      simp only [Part.val l _ _ _ _ (h.left hx), Part.val l _ _ _ _ (h.right hx)]
theorem Part.start {height : Nat} {xs : List Nat} {ls bs : List H32} (h : idxOk height xs) (hl : ls.length = xs.length) (hb : bs.length = (spots height xs 0).length) : Part ((spots height xs 0).zip bs) (xs.zip ls) height 0 xs ls bs :=
  ⟨fun _ _ => rfl, fun _ _ => rfl, hl, hb, h.rise, h.root⟩
end Go.E
namespace Go.E
set_option linter.unusedVariables false
theorem Ro.take {w : World} {M : List Nat} {A : Option Addr} {cs : List Value} (h : Ro w M (SlA A cs)) (k : Nat) : Ro w M (SlA A (cs.take k)) :=
  ⟨SlA.take h.1 k, fun b hb => h.2 b (by
    rw [SlA_fp] at hb ⊢
    obtain ⟨a, rfl, rfl, hne⟩ := mem_slfp hb
    exact in_slfp (fun e => hne (by rw [e]; simp)))⟩
theorem Ro.cut {w : World} {M : List Nat} {A : Option Addr} {cs : List Value} (h : Ro w M (SlA A cs)) {c l k : Nat} (hc : c = l → cs.length ≤ k) : Ro w M (SlA (if c = l then A else A.map (·.add k)) (cs.drop k)) :=
  ⟨SlA.cut h.1 hc, fun b hb => h.2 b (by
    rw [SlA_fp] at hb ⊢
    obtain ⟨a, ha, rfl, hne⟩ := mem_slfp hb
    have hcs : cs ≠ [] := fun e => hne (by rw [e]; simp)
    split at ha
    · subst ha; exact in_slfp hcs
    · cases A with
      | none => cases ha
      | some a' =>
        injection ha with ha
        subst ha
        rw [add_block]; exact in_slfp hcs)⟩
theorem St.next {W w0 w : World} {M : List Nat} {L0 L : List Assn} (h : St W M L0 w0) (k : St w0 (fps L0) L w) : St W M L w := by
  have := St.frame (R := []) (by rw [List.append_nil]; exact h) k
  rwa [List.append_nil] at this
end Go.E
