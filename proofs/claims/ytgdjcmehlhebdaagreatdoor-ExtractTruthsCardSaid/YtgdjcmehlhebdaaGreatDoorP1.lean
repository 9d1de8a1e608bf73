/- Plain words: the nodes of a proof. -/
import Derived.Test.YtgdjcmehlhebdaaGreatDoorP2
import Derived.Lib.Overlaps
import Derived.Laws.AppendOwn
set_option maxHeartbeats 25600000
set_option linter.all false
namespace Go.E
def n6 (xs : List Nat) (l q : Nat) : List Nat := xs.filter fun x => x / 2 ^ l == q
theorem cZ {xs : List Nat} {l q : Nat} : ∀ x ∈ n6 xs l q, x / 2 ^ l = q := fun x hx => by
 have := (List.mem_filter.1 hx).2; simpa using this
theorem eB {xs : List Nat} {l q : Nat} (h : xs.Pairwise (· < ·)) : (n6 xs l q).Pairwise (· < ·) := h.sublist List.filter_sublist
theorem eP (xs : List Nat) (l q : Nat) : (n6 xs l q).length ≤ xs.length := List.length_filter_le ..
theorem DE (xs : List Nat) (l p q : Nat) (h : q / 2 = p) : n6 (n6 xs (l + 1) p) l q = n6 xs l q := by
 unfold n6
 rw [List.filter_filter]
 refine List.filter_congr fun x _ => ?_
 by_cases e : x / 2 ^ l = q
 ·have : x / 2 ^ (l + 1) = p := by rw [← v8, e, h]
  simp [e, this]
 ·simp [e]
theorem gX {xs : List Nat} {l p : Nat} (h : ∀ x ∈ xs, x / 2 ^ l = p) : n6 xs l p = xs := List.filter_eq_self.2 fun x hx => by simpa using h x hx
theorem lH {xs : List Nat} {l p : Nat} (h : ∀ x ∈ xs, x / 2 ^ l ≠ p) : n6 xs l p = [] := List.filter_eq_nil_iff.2 fun x hx => by simpa using h x hx
theorem vB (l p : Nat) : ∀ xs : List Nat, (n6 xs l (2 * p)).length + (n6 xs l (2 * p + 1)).length ≤ xs.length
 | [] => Nat.le_refl _
 | x :: xs => by
  have h := vB l p xs
  simp only [n6, List.filter_cons, List.length_cons] at h ⊢
  by_cases a : x / 2 ^ l = 2 * p
  ·have b : ¬ (x / 2 ^ l = 2 * p + 1) := by omega
   simp only [beq_iff_eq, a, if_true, if_false, List.length_cons, show ¬ (2 * p = 2 * p + 1) by omega]; omega
  ·by_cases b : x / 2 ^ l = 2 * p + 1
   ·simp only [beq_iff_eq, b, if_true, if_false, List.length_cons, show ¬ (2 * p + 1 = 2 * p) by omega]; omega
   ·simp only [beq_iff_eq, a, b, if_false]; omega
def l7 : Nat → List Nat → Nat → Sd
 | 0, xs, p => if xs = [] then [(0, p)] else []
 | l + 1, xs, p => if xs = [] then [(l + 1, p)] else l7 l (n6 xs l (2 * p)) (2 * p) ++ l7 l (n6 xs l (2 * p + 1)) (2 * p + 1)
theorem aG (l p : Nat) : l7 l [] p = [(l, p)] := by cases l <;> rfl
theorem jQ {xs : List Nat} {p : Nat} (h : xs ≠ []) : l7 0 xs p = [] := if_neg h
theorem W7 {xs : List Nat} {l p : Nat} (h : xs ≠ []) : l7 (l + 1) xs p = l7 l (n6 xs l (2 * p)) (2 * p) ++ l7 l (n6 xs l (2 * p + 1)) (2 * p + 1) := if_neg h
theorem eG : ∀ (l : Nat) (xs : List Nat) (p : Nat), (l7 l xs p).length ≤ xs.length * l + 1
 | 0, xs, p => by rw [l7]; split <;> simp
 | l + 1, xs, p => by
  rw [l7]
  split
  ·simp
  ·rename_i h
   have h1 := eG l (n6 xs l (2 * p)) (2 * p)
   have h2 := eG l (n6 xs l (2 * p + 1)) (2 * p + 1)
   have h3 := vB l p xs
   have h4 : 0 < xs.length := List.length_pos_iff.2 h
   rw [List.length_append]
   have h5 : (n6 xs l (2 * p)).length * l + (n6 xs l (2 * p + 1)).length * l ≤ xs.length * l := by rw [← Nat.add_mul]; exact Nat.mul_le_mul_right _ h3
   rw [Nat.mul_succ]; omega
def E0 : Nat → List Nat → Nat → Sd
 | 0, xs, p => if n6 xs 0 p = [] then [(0, p)] else []
 | l + 1, xs, p => if n6 xs (l + 1) p = [] then [(l + 1, p)] else E0 l xs (2 * p) ++ E0 l xs (2 * p + 1)
theorem cK (xs : List Nat) : ∀ l p, E0 l xs p = l7 l (n6 xs l p) p
 | 0, p => rfl
 | l + 1, p => by
  rw [E0, l7]
  split
  ·rfl
  ·rw [cK xs l (2 * p), cK xs l (2 * p + 1), DE xs l p (2 * p) ow, DE xs l p (2 * p + 1) ow]
theorem xE {xs : List Nat} {l p : Nat} (h : n6 xs l p = []) : E0 l xs p = [(l, p)] := by rw [cK, h, aG]
theorem tB {xs : List Nat} {p : Nat} (h : n6 xs 0 p ≠ []) : E0 0 xs p = [] := if_neg h
theorem tA {xs : List Nat} {l p : Nat} (h : n6 xs (l + 1) p ≠ []) : E0 (l + 1) xs p = E0 l xs (2 * p) ++ E0 l xs (2 * p + 1) := if_neg h
theorem jM (l : Nat) (xs : List Nat) (p : Nat) : (E0 l xs p).length ≤ xs.length * l + 1 := by
 rw [cK]
 exact Nat.le_trans (eG ..) (Nat.succ_le_succ (Nat.mul_le_mul_right _ (eP ..)))
theorem FA {xs : List Nat} {l p i : Nat} (hs : xs.Pairwise (· < ·)) (hx : ∀ x ∈ xs, x / 2 ^ (l + 1) = p) (h1 : ∀ j, j < i → xs.getD j 0 / 2 ^ l = 2 * p) (h2 : i < xs.length → xs.getD i 0 / 2 ^ l ≠ 2 * p) :
  xs.take i = n6 xs l (2 * p) ∧ xs.drop i = n6 xs l (2 * p + 1) := by
 have hT : ∀ x ∈ xs.take i, x / 2 ^ l = 2 * p := fun x hm => by
  obtain ⟨j, hj, rfl⟩ := List.mem_take_iff_getElem.1 hm
  have := h1 j ow
  rwa [show xs.getD j 0 = xs[j] by simp [List.getD, show j < xs.length by omega]] at this
 have hD : ∀ x ∈ xs.drop i, x / 2 ^ l = 2 * p + 1 := fun x hm => by
  have hi : i < xs.length := by
   rcases Nat.lt_or_ge i xs.length with h | h
   ·exact h
   ·rw [List.drop_of_length_le h] at hm; cases hm
  have hh := h2 hi
  rw [show xs.getD i 0 = xs[i] by simp [List.getD, hi]] at hh
  have hp := hx xs[i] (List.getElem_mem hi)
  rw [← v8] at hp
  have hxp := hx x (List.mem_of_mem_drop hm)
  rw [← v8] at hxp
  have hle : xs[i] ≤ x := by
   have hd := hs.sublist (List.drop_sublist i xs)
   rw [List.drop_eq_getElem_cons hi] at hm hd
   rcases List.mem_cons.1 hm with rfl | hm
   ·exact Nat.le_refl _
   ·exact Nat.le_of_lt (List.rel_of_pairwise_cons hd hm)
  have hq := Nat.div_le_div_right (c := 2 ^ l) hle
  generalize xs[i] / 2 ^ l = a at hh hp hq
  generalize x / 2 ^ l = b at hxp hq ⊢
  omega
 have e : ∀ q, n6 xs l q = n6 (xs.take i) l q ++ n6 (xs.drop i) l q := fun q => by
  unfold n6; rw [← List.filter_append, List.take_append_drop]
 constructor
 ·rw [e, gX hT, lH (fun x hm => by rw [hD x hm]; omega), List.append_nil]
 ·rw [e, gX hD, lH (fun x hm => by rw [hT x hm]; omega), List.nil_append]
def sC (gh : Nat) (xs : List Nat) (k : Nat) : Prop := ∀ j, j < k → xs.getD j 0 < 2 ^ gh ∧ (0 < j → xs.getD (j - 1) 0 < xs.getD j 0)
instance (gh : Nat) (xs : List Nat) (k : Nat) : Decidable (sC gh xs k) := inferInstanceAs (Decidable (∀ j, j < k → _))
def idxOk (gh : Nat) (xs : List Nat) : Prop := 1 ≤ xs.length ∧ xs.length ≤ 256 ∧ sC gh xs xs.length
instance (gh : Nat) (xs : List Nat) : Decidable (idxOk gh xs) := inferInstanceAs (Decidable (_ ∧ _ ∧ _))
theorem vQ (gh : Nat) (xs : List Nat) : sC gh xs 0 := fun j h => absurd h (Nat.not_lt_zero _)
theorem jA {gh : Nat} {xs : List Nat} {k : Nat} (h : sC gh xs k) (h1 : xs.getD k 0 < 2 ^ gh) (h2 : 0 < k → xs.getD (k - 1) 0 < xs.getD k 0) : sC gh xs (k + 1) := fun j hj => by
 rcases Nat.lt_or_ge j k with h3 | h3
 ·exact h j h3
 ·obtain rfl : j = k := by omega
  exact ⟨h1, h2⟩
theorem DN {gh : Nat} {xs : List Nat} {k : Nat} (h : sC gh xs k) (hk : k ≤ xs.length) : ∀ (j i : Nat), i < j → j < k → xs.getD i 0 < xs.getD j 0
 | 0, i, hi, _ => absurd hi (Nat.not_lt_zero _)
 | j + 1, i, hi, hj => by
  have h1 := (h (j + 1) hj).2 (Nat.succ_pos _)
  rw [Nat.add_sub_cancel] at h1
  rcases Nat.lt_or_ge i j with h2 | h2
  ·exact Nat.lt_trans (DN h hk j i h2 ow) h1
  ·obtain rfl : i = j := by omega
   exact h1
theorem idxOk.rise {gh : Nat} {xs : List Nat} (h : idxOk gh xs) : xs.Pairwise (· < ·) :=
 List.pairwise_iff_getElem.2 fun i j hi hj hij => by
  have := DN h.2.2 (Nat.le_refl _) j i hij hj
  rwa [show xs.getD i 0 = xs[i] by simp [List.getD, hi], show xs.getD j 0 = xs[j] by simp [List.getD, hj]] at this
theorem idxOk.low {gh : Nat} {xs : List Nat} (h : idxOk gh xs) : ∀ x ∈ xs, x < 2 ^ gh := fun x hx => by
 obtain ⟨j, hj, rfl⟩ := List.mem_iff_getElem.1 hx
 have := (h.2.2 j hj).1
 rwa [show xs.getD j 0 = xs[j] by simp [List.getD, hj]] at this
theorem idxOk.root {gh : Nat} {xs : List Nat} (h : idxOk gh xs) : ∀ x ∈ xs, x / 2 ^ gh = 0 := fun x hx => Nat.div_eq_of_lt (h.low x hx)
theorem bG {gh l p : Nat} (h : N0 gh (l + 1, p)) : N0 gh (l, 2 * p) ∧ N0 gh (l, 2 * p + 1) := by
 obtain ⟨h1, h2⟩ := h
 have h1' : l + 1 ≤ gh := h1
 have h2' : p < 2 ^ (gh - (l + 1)) := h2
 have h3 := iF (gh := gh) (l := l) ow
 refine ⟨⟨by show l ≤ gh; omega, ?_⟩, ⟨by show l ≤ gh; omega, ?_⟩⟩
 ·show 2 * p < 2 ^ (gh - l); omega
 ·show 2 * p + 1 < 2 ^ (gh - l); omega
theorem kX {gh : Nat} : ∀ (l : Nat) (xs : List Nat) (p : Nat), N0 gh (l, p) → ∀ a ∈ l7 l xs p, N0 gh a
 | 0, xs, p, h, a, ha => by
  rw [l7] at ha
  split at ha
  ·rw [List.mem_singleton.1 ha]; exact h
  ·cases ha
 | l + 1, xs, p, h, a, ha => by
  rw [l7] at ha
  split at ha
  ·rw [List.mem_singleton.1 ha]; exact h
  ·rcases List.mem_append.1 ha with h1 | h1
   ·exact kX l _ _ (bG h).1 a h1
   ·exact kX l _ _ (bG h).2 a h1
def iQ (s : Sd) : List Value := s.flatMap fun a => [.int .i64 (a.1 : Int), .int .u64 (a.2 : Int)]
theorem pR (s t : Sd) : iQ (s ++ t) = iQ s ++ iQ t := List.flatMap_append
theorem W4 (s : Sd) : (iQ s).length = s.length * 2 := oM (encL := fun a : Nat × Nat => [.int .i64 (a.1 : Int), .int .u64 (a.2 : Int)]) (sz := 2) (fun _ => rfl) s
theorem uD (s : Sd) : ∀ u ∈ iQ s, u.oneCell' = true := fun u hu => by
 obtain ⟨a, _, h⟩ := List.mem_flatMap.1 hu
 rcases List.mem_cons.1 h with rfl | h
 ·rfl
 ·rw [List.mem_singleton.1 h]; rfl
theorem CD {s : Sd} {k : Nat} (h : k < s.length) : (iQ s)[k * 2]? = some (.int .i64 ((s.getD k (0, 0)).1 : Int)) ∧ (iQ s)[k * 2 + 1]? = some (.int .u64 ((s.getD k (0, 0)).2 : Int)) :=
 ⟨aW (encL := fun a : Nat × Nat => [.int .i64 (a.1 : Int), .int .u64 (a.2 : Int)]) (sz := 2) (fun _ => rfl) s k _ (getD_some (0, 0) h) 0 _ rfl, aW (encL := fun a : Nat × Nat => [.int .i64 (a.1 : Int), .int .u64 (a.2 : Int)]) (sz := 2) (fun _ => rfl) s k _ (getD_some (0, 0) h) 1 _ rfl⟩
theorem eY (l p : Nat) : ∀ xs : List Nat, xs.Pairwise (· < ·) → (∀ x ∈ xs, x / 2 ^ (l + 1) = p) → xs = n6 xs l (2 * p) ++ n6 xs l (2 * p + 1)
 | [], _, _ => rfl
 | x :: xs, hs, hx => by
  obtain ⟨h1, h2⟩ := List.pairwise_cons.1 hs
  have ih := eY l p xs h2 (fun y hy => hx y (List.mem_cons_of_mem _ hy))
  have hp := hx x (List.mem_cons_self ..)
  rw [← v8] at hp
  by_cases e : x / 2 ^ l = 2 * p
  ·have a : n6 (x :: xs) l (2 * p) = x :: n6 xs l (2 * p) := by simp [n6, e]
   have b : n6 (x :: xs) l (2 * p + 1) = n6 xs l (2 * p + 1) := by simp [n6, e]
   rw [a, b, List.cons_append, ← ih]
  ·have e1 : x / 2 ^ l = 2 * p + 1 := by omega
   have hD : ∀ y ∈ x :: xs, y / 2 ^ l = 2 * p + 1 := fun y hy => by
    rcases List.mem_cons.1 hy with rfl | hm
    ·exact e1
    ·have h3 := Nat.div_le_div_right (c := 2 ^ l) (Nat.le_of_lt (h1 y hm))
     have h4 := hx y hy
     rw [← v8] at h4
     generalize y / 2 ^ l = b at h3 h4 ⊢
     omega
   rw [lH (fun y hm => by rw [hD y hm]; omega), gX hD, List.nil_append]
def F2 : Nat → List Nat → Nat → List i6 → List i6 → i6
 | 0, xs, p, ls, bs => if xs = [] then bs.headD e7 else ls.headD e7
 | l + 1, xs, p, ls, bs => if xs = [] then bs.headD e7 else
   F8 (l + 1) (F2 l (n6 xs l (2 * p)) (2 * p) (ls.take (n6 xs l (2 * p)).length) (bs.take (l7 l (n6 xs l (2 * p)) (2 * p)).length))
    (F2 l (n6 xs l (2 * p + 1)) (2 * p + 1) (ls.drop (n6 xs l (2 * p)).length) (bs.drop (l7 l (n6 xs l (2 * p)) (2 * p)).length))
def S0 : Nat → List Nat → Nat → List i6 → List i6 → List (List UInt8)
 | 0, xs, p, ls, bs => []
 | l + 1, xs, p, ls, bs => if xs = [] then [] else
   S0 l (n6 xs l (2 * p)) (2 * p) (ls.take (n6 xs l (2 * p)).length) (bs.take (l7 l (n6 xs l (2 * p)) (2 * p)).length) ++
   S0 l (n6 xs l (2 * p + 1)) (2 * p + 1) (ls.drop (n6 xs l (2 * p)).length) (bs.drop (l7 l (n6 xs l (2 * p)) (2 * p)).length) ++
   [x5 (l + 1) (F2 l (n6 xs l (2 * p)) (2 * p) (ls.take (n6 xs l (2 * p)).length) (bs.take (l7 l (n6 xs l (2 * p)) (2 * p)).length))
    (F2 l (n6 xs l (2 * p + 1)) (2 * p + 1) (ls.drop (n6 xs l (2 * p)).length) (bs.drop (l7 l (n6 xs l (2 * p)) (2 * p)).length))]
theorem mV (l p : Nat) (ls bs : List i6) : F2 l [] p ls bs = bs.headD e7 := by cases l <;> rfl
theorem uY (l p : Nat) (ls bs : List i6) : S0 l [] p ls bs = [] := by cases l <;> rfl
theorem rW {xs : List Nat} {p : Nat} {ls bs : List i6} (h : xs ≠ []) : F2 0 xs p ls bs = ls.headD e7 := if_neg h
theorem rV {xs : List Nat} {l p : Nat} {ls bs : List i6} (h : xs ≠ []) : F2 (l + 1) xs p ls bs =
      F8 (l + 1) (F2 l (n6 xs l (2 * p)) (2 * p) (ls.take (n6 xs l (2 * p)).length) (bs.take (l7 l (n6 xs l (2 * p)) (2 * p)).length))
        (F2 l (n6 xs l (2 * p + 1)) (2 * p + 1) (ls.drop (n6 xs l (2 * p)).length) (bs.drop (l7 l (n6 xs l (2 * p)) (2 * p)).length)) := if_neg h
theorem rU {xs : List Nat} {l p : Nat} {ls bs : List i6} (h : xs ≠ []) : S0 (l + 1) xs p ls bs =
      S0 l (n6 xs l (2 * p)) (2 * p) (ls.take (n6 xs l (2 * p)).length) (bs.take (l7 l (n6 xs l (2 * p)) (2 * p)).length) ++
      S0 l (n6 xs l (2 * p + 1)) (2 * p + 1) (ls.drop (n6 xs l (2 * p)).length) (bs.drop (l7 l (n6 xs l (2 * p)) (2 * p)).length) ++
      [x5 (l + 1) (F2 l (n6 xs l (2 * p)) (2 * p) (ls.take (n6 xs l (2 * p)).length) (bs.take (l7 l (n6 xs l (2 * p)) (2 * p)).length))
        (F2 l (n6 xs l (2 * p + 1)) (2 * p + 1) (ls.drop (n6 xs l (2 * p)).length) (bs.drop (l7 l (n6 xs l (2 * p)) (2 * p)).length))] := if_neg h
theorem Y8 : ∀ (l : Nat) (xs : List Nat) (p : Nat) (ls bs : List i6), (S0 l xs p ls bs).length ≤ xs.length * l
 | 0, xs, p, ls, bs => Nat.zero_le _
 | l + 1, xs, p, ls, bs => by
  rw [S0]
  split
  ·exact Nat.zero_le _
  ·rename_i h
   have h1 := Y8 l (n6 xs l (2 * p)) (2 * p) (ls.take (n6 xs l (2 * p)).length) (bs.take (l7 l (n6 xs l (2 * p)) (2 * p)).length)
   have h2 := Y8 l (n6 xs l (2 * p + 1)) (2 * p + 1) (ls.drop (n6 xs l (2 * p)).length) (bs.drop (l7 l (n6 xs l (2 * p)) (2 * p)).length)
   have h3 := vB l p xs
   have h4 : 0 < xs.length := List.length_pos_iff.2 h
   have h5 : (n6 xs l (2 * p)).length * l + (n6 xs l (2 * p + 1)).length * l ≤ xs.length * l := by rw [← Nat.add_mul]; exact Nat.mul_le_mul_right _ h3
   rw [List.length_append, List.length_append, List.length_singleton, Nat.mul_succ]; omega
def X5 (zs : List ((Nat × Nat) × i6)) (zl : List (Nat × i6)) : Nat → Nat → i6
 | 0, p => match look (0, p) zs with
  | some h => h
  | none => (look p zl).getD e7
 | l + 1, p => match look (l + 1, p) zs with
  | some h => h
  | none => F8 (l + 1) (X5 zs zl l (2 * p)) (X5 zs zl l (2 * p + 1))
def nH (zs : List ((Nat × Nat) × i6)) (zl : List (Nat × i6)) : Nat → Nat → List (List UInt8)
 | 0, p => []
 | l + 1, p => match look (l + 1, p) zs with
  | some h => []
  | none => nH zs zl l (2 * p) ++ nH zs zl l (2 * p + 1) ++ [x5 (l + 1) (X5 zs zl l (2 * p)) (X5 zs zl l (2 * p + 1))]
def HS (l p : Nat) (a : Nat × Nat) : Prop := a.1 ≤ l ∧ a.2 / 2 ^ (l - a.1) = p
theorem pS {l p q : Nat} {a : Nat × Nat} (h : HS l q a) (hq : q / 2 = p) : HS (l + 1) p a := by
 obtain ⟨h1, h2⟩ := h
 refine ⟨Nat.le_succ_of_le h1, ?_⟩
 rw [show l + 1 - a.1 = (l - a.1) + 1 by omega, ← v8, h2, hq]
theorem bJ : ∀ (l : Nat) (xs : List Nat) (p : Nat), ∀ a ∈ l7 l xs p, HS l p a
 | 0, xs, p, a, ha => by
  rw [l7] at ha
  split at ha
  ·rw [List.mem_singleton.1 ha]; exact ⟨Nat.le_refl _, by simp⟩
  ·cases ha
 | l + 1, xs, p, a, ha => by
  rw [l7] at ha
  split at ha
  ·rw [List.mem_singleton.1 ha]; exact ⟨Nat.le_refl _, by simp⟩
  ·rcases List.mem_append.1 ha with h1 | h1
   ·exact pS (bJ l _ _ a h1) ow
   ·exact pS (bJ l _ _ a h1) ow
theorem P9 {κ : Type} [DecidableEq κ] (a : κ) : ∀ (s : List κ) (bs : List i6), a ∉ s → look a (s.zip bs) = none
 | [], bs, _ => by simp [U8]
 | x :: s, [], _ => by simp [U8]
 | x :: s, b :: bs, h => by
  rw [List.zip_cons_cons, A6, if_neg (fun e => h (by rw [e]; exact List.mem_cons_self ..))]
  exact P9 a s bs (fun hm => h (List.mem_cons_of_mem _ hm))
structure Part (zs : List ((Nat × Nat) × i6)) (zl : List (Nat × i6)) (l p : Nat) (xs : List Nat) (ls bs : List i6) : Prop where
 bes : ∀ a, HS l p a → look a zs = look a ((l7 l xs p).zip bs)
 lvs : ∀ x, x / 2 ^ l = p → look x zl = look x (xs.zip ls)
 len : ls.length = xs.length
 lenb : bs.length = (l7 l xs p).length
 rise : xs.Pairwise (· < ·)
 all : ∀ x ∈ xs, x / 2 ^ l = p
variable {zs : List ((Nat × Nat) × i6)} {zl : List (Nat × i6)} {l p : Nat} {xs : List Nat} {ls bs : List i6}
theorem Part.found (h : Part zs zl l p [] ls bs) : look (l, p) zs = some (bs.headD e7) := by
 rw [h.bes (l, p) ⟨Nat.le_refl _, by simp⟩, aG]
 have hl := h.lenb
 rw [aG] at hl
 match bs, hl with
 | [b], _ => simp [A6]
theorem Part.leaf (h : Part zs zl 0 p xs ls bs) (hx : xs ≠ []) : look (0, p) zs = none ∧ look p zl = some (ls.headD e7) := by
 constructor
 ·rw [h.bes (0, p) ⟨Nat.le_refl _, by simp⟩, jQ hx]; simp [U8]
 ·rw [h.lvs p (by simp)]
  have hl := h.len
  match xs, ls, hl, hx, h.all with
  | x :: xs, y :: ls, _, _, ha =>
   have hp := ha x (List.mem_cons_self ..)
   rw [Nat.pow_zero, Nat.div_one] at hp
   simp [A6, hp]
theorem Part.none (h : Part zs zl (l + 1) p xs ls bs) (hx : xs ≠ []) : look (l + 1, p) zs = Option.none := by
 rw [h.bes (l + 1, p) ⟨Nat.le_refl _, by simp⟩]
 refine P9 _ _ _ fun hm => ?_
 rw [W7 hx] at hm
 rcases List.mem_append.1 hm with h1 | h1
 ·exact absurd (bJ l _ _ _ h1).1 (Nat.not_succ_le_self l)
 ·exact absurd (bJ l _ _ _ h1).1 (Nat.not_succ_le_self l)
theorem Part.left (h : Part zs zl (l + 1) p xs ls bs) (hx : xs ≠ []) : Part zs zl l (2 * p) (n6 xs l (2 * p)) (ls.take (n6 xs l (2 * p)).length) (bs.take (l7 l (n6 xs l (2 * p)) (2 * p)).length) := by
 have hb := h.lenb
 have hl := h.len
 rw [W7 hx, List.length_append] at hb
 have hp := eY l p xs h.rise h.all
 have hn := congrArg List.length hp
 rw [List.length_append] at hn
 refine ⟨fun a ha => ?_, fun x hxx => ?_, by rw [List.length_take]; omega, by rw [List.length_take]; omega, eB h.rise, cZ⟩
 ·rw [h.bes a (pS ha ow), W7 hx]
  conv => lhs; rw [← List.take_append_drop (l7 l (n6 xs l (2 * p)) (2 * p)).length bs]
  rw [List.zip_append (by rw [List.length_take]; omega), Q5, P9 a (l7 l (n6 xs l (2 * p + 1)) (2 * p + 1)) _ (fun hm => by have := (bJ l _ _ a hm).2; rw [ha.2] at this; omega), Option.or_none]
 ·rw [h.lvs x (by rw [← v8, hxx]; omega)]
  conv => lhs; rw [hp, ← List.take_append_drop (n6 xs l (2 * p)).length ls]
  rw [List.zip_append (by rw [List.length_take]; omega), Q5, P9 x (n6 xs l (2 * p + 1)) _ (fun hm => by have := cZ x hm; omega), Option.or_none]
theorem Part.right (h : Part zs zl (l + 1) p xs ls bs) (hx : xs ≠ []) : Part zs zl l (2 * p + 1) (n6 xs l (2 * p + 1)) (ls.drop (n6 xs l (2 * p)).length) (bs.drop (l7 l (n6 xs l (2 * p)) (2 * p)).length) := by
 have hb := h.lenb
 have hl := h.len
 rw [W7 hx, List.length_append] at hb
 have hp := eY l p xs h.rise h.all
 have hn := congrArg List.length hp
 rw [List.length_append] at hn
 refine ⟨fun a ha => ?_, fun x hxx => ?_, by rw [List.length_drop]; omega, by rw [List.length_drop]; omega, eB h.rise, cZ⟩
 ·rw [h.bes a (pS ha ow), W7 hx]
  conv => lhs; rw [← List.take_append_drop (l7 l (n6 xs l (2 * p)) (2 * p)).length bs]
  rw [List.zip_append (by rw [List.length_take]; omega), Q5, P9 a (l7 l (n6 xs l (2 * p)) (2 * p)) _ (fun hm => by have := (bJ l _ _ a hm).2; rw [ha.2] at this; omega), Option.none_or]
 ·rw [h.lvs x (by rw [← v8, hxx]; omega)]
  conv => lhs; rw [hp, ← List.take_append_drop (n6 xs l (2 * p)).length ls]
  rw [List.zip_append (by rw [List.length_take]; omega), Q5, P9 x (n6 xs l (2 * p)) _ (fun hm => by have := cZ x hm; omega), Option.none_or]
theorem Part.val : ∀ (l p : Nat) (xs : List Nat) (ls bs : List i6), Part zs zl l p xs ls bs → X5 zs zl l p = F2 l xs p ls bs
 | 0, p, xs, ls, bs, h => by
  by_cases hx : xs = []
  ·subst hx; rw [X5, h.found, mV]
  ·rw [X5, (h.leaf hx).1, rW hx]; simp only [(h.leaf hx).2, Option.getD_some]
 | l + 1, p, xs, ls, bs, h => by
  by_cases hx : xs = []
  ·subst hx; rw [X5, h.found, mV]
  ·rw [X5, h.none hx, rV hx]
   simp only [Part.val l _ _ _ _ (h.left hx), Part.val l _ _ _ _ (h.right hx)]
theorem nT : ∀ (l p : Nat) (xs : List Nat) (ls bs : List i6), Part zs zl l p xs ls bs → nH zs zl l p = S0 l xs p ls bs
 | 0, p, xs, ls, bs, h => rfl
 | l + 1, p, xs, ls, bs, h => by
  by_cases hx : xs = []
  ·subst hx; rw [nH, h.found, uY]
  ·rw [nH, h.none hx, rU hx]
   simp only [Part.val l _ _ _ _ (h.left hx), Part.val l _ _ _ _ (h.right hx), nT l _ _ _ _ (h.left hx), nT l _ _ _ _ (h.right hx)]
theorem zdb {gh : Nat} {xs : List Nat} {ls bs : List i6} (h : idxOk gh xs) (hl : ls.length = xs.length) (hb : bs.length = (l7 gh xs 0).length) : Part ((l7 gh xs 0).zip bs) (xs.zip ls) gh 0 xs ls bs :=
 ⟨fun _ _ => rfl, fun _ _ => rfl, hl, hb, h.rise, h.root⟩
end Go.E
namespace Go.E
theorem F6 {xs : List Nat} {k : Nat} (h : k < xs.length) : (w6 xs)[k * 1]? = some (.int .u64 ((xs.getD k 0 : Nat) : Int)) := FE h (Nat.mul_one k)
theorem zgi (xs : List Nat) (k : Nat) : (w6 xs).take k = w6 (xs.take k) := by simp [w6]
theorem zhU (xs : List Nat) : ∀ u ∈ w6 xs, u.oneCell' = true := fun u hu => by
 obtain ⟨x, _, rfl⟩ := List.mem_map.1 hu; rfl
theorem Ro.take {w : World} {M : List Nat} {A : y8} {cs : List Value} (h : Ro w M (SlA A cs)) (k : Nat) : Ro w M (SlA A (cs.take k)) :=
 ⟨SlA.take h.1 k, fun b hb => h.2 b (by
  rw [bN] at hb ⊢
  obtain ⟨a, rfl, rfl, hne⟩ := U9 hb
  exact tW (fun e => hne (by rw [e]; simp)))⟩
theorem Ro.cut {w : World} {M : List Nat} {A : y8} {cs : List Value} (h : Ro w M (SlA A cs)) {c l k : Nat} (hc : c = l → cs.length ≤ k) : Ro w M (SlA (if c = l then A else A.map (·.add k)) (cs.drop k)) :=
 ⟨SlA.cut h.1 hc, fun b hb => h.2 b (by
  rw [bN] at hb ⊢
  obtain ⟨a, ha, rfl, hne⟩ := U9 hb
  have m9 : cs ≠ [] := fun e => hne (by rw [e]; simp)
  split at ha
  ·subst ha; exact tW m9
  ·cases A with
   | none => cases ha
   | some a' =>
    injection ha with ha
    subst ha
    rw [lE]; exact tW m9)⟩
theorem zgw (w : World) (M : List Nat) (A : y8) : Ro w M (SlA A []) := ⟨fun j u hj => by simp at hj, fun b hb => by rw [bN] at hb; obtain ⟨x, hx, _, h⟩ := U9 hb; exact absurd rfl h⟩
theorem St.next {W w0 w : World} {M : List Nat} {L0 L : List Assn} (h : St W M L0 w0) (k : St w0 (A8 L0) L w) : St W M L w := by
 have := St.frame (R := []) (by rw [List.append_nil]; exact h) k
 rwa [List.append_nil] at this
theorem xS {w0 w : World} {M : List Nat} {L : List Assn} (h : St w0 M (L ++ []) w) : St w0 M L w := by rwa [List.append_nil] at h
theorem wN (L : List Assn) : List.Perm L (L ++ []) := by rw [List.append_nil]
theorem wA {x h : Nat} (e : x / 2 ^ h = 0) : x < 2 ^ h := (Nat.div_eq_zero_iff_lt (Nat.two_pow_pos h)).1 e
theorem zgH {x l p : Nat} (h : x / 2 ^ l = p) : x < (p + 1) * 2 ^ l := by
 rw [← h, Nat.add_mul, Nat.one_mul]
 have := Nat.div_add_mod x (2 ^ l)
 have h2 := Nat.mod_lt x (Nat.two_pow_pos l)
 rw [Nat.mul_comm] at this; omega
theorem zeH {gh l p x : Nat} (hh : gh ≤ 32) (ho : N0 gh (l, p)) (h : x / 2 ^ l = p) : x < 9223372036854775808 := Nat.lt_of_lt_of_le (zgH h) (wG hh ho)
def JT (P : Program) (fn : FuncId) (cp : Array Value) (gh : Nat) (J : Sd → List Assn → Prop) (W : World) (M : List Nat) (B : Nat) : Prop :=
 ∀ (a : Nat × Nat) (done : Sd) (L : List Assn) (w : World), N0 gh a → done.length < B → J done L → St W M L w →
  Calls P fn ((([.int .i64 (a.1 : Int), .int .u64 (a.2 : Int)] : List Value) ++ cp.toList).toArray) w (D0 w (A8 L) fun v L' => J (done ++ [a]) L')
def KW (P : Program) (g : FuncId) (fn : FuncId) (cp : Array Value) (gh : Nat) (J : Sd → List Assn → Prop) (W : World) (M : List Nat) (B : Nat) (l : Nat) : Prop :=
 ∀ (p : Nat) (xs : List Nat) (A : y8) (c : Nat) (done : Sd) (L0 : List Assn) (w0 : World), N0 gh (l, p) → xs.Pairwise (· < ·) → (∀ x ∈ xs, x / 2 ^ l = p) → xs.length ≤ c → xs.length ≤ 256 → Sat w0 L0 →
  Ro w0 (A8 L0) (SlA A (w6 xs)) → J done L0 → St W M L0 w0 → done.length + (l7 l xs p).length ≤ B →
  Calls P g #[.slice A xs.length c, .int .i64 (l : Int), .int .u64 (p : Int), .func (.func fn) #[] cp] w0 (D0 w0 (A8 L0) fun v L => J (done ++ l7 l xs p) L)
structure FoundI (xs : List Nat) (q : Nat → Bool) (z : Int) : Prop where
 no : z < 0 → ∀ j, j < xs.length → q (xs.getD j 0) = false
 yes : ¬ z < 0 → ∃ i : Nat, z = (i : Int) ∧ i < xs.length ∧ (∀ j, j < i → q (xs.getD j 0) = false) ∧ q (xs.getD i 0) = true
set_option linter.unusedSectionVars false
variable {C : Ctx} {Q : EQ} {env : Env} {L : List Assn}
variable {dst : Option Tmp} {ty : TypeId} {po : String} {af : Array Edge} {gj : Option (Nat × Bool)} {x y : Operand} {T T2 e : TypeId} {K : Value → List Assn → Prop}
theorem tL {A : y8} {n c : Nat} (ht : C.P.underlying T = some (.slice e)) (hx : env.ev x = .slice A n c) :
  Qt C L ⟨dst, .call { callee := .builtin .cap, args := #[x], argTypes := #[T] }, ty, po, af, gj⟩ env (.int .i64 (c : Int)) := fun w _ => by
 simp [execOp, resolve, invoke, builtin, hx, Builtin.cap_, run_underlying ht]
 rfl
theorem zah {P : Program} (w : World) (t tn ty e : TypeId) (i : TypeInfo) (z : Value) (ht : P.underlying t = some (.slice e)) (htn : P.underlying tn = some (.int .i64)) (hi : P.info? e = some i) (hz : i.zero = some z)
  (A : y8) (c n : Nat) (hs : 0 < i.size) (hk : c < n) (hm : n ≤ maxLen) (hby : n * i.bytes ≤ 140737488355328) :
  (Builtin.append_ #[t, tn] ty #[.slice A 0 c, .int .i64 n]).run P w =
   .ok (.slice (some ⟨w.heap.size, 0, none⟩) n (grownCap w n c e)) (w.drew.alloc (.cells (Builtin.zeroCells z.cells n ++ Builtin.zeroCells z.cells (grownCap w n c e - n)) e)) := by
 simp only [maxLen] at hm
 have hn : n ≠ 0 := by omega
 have hw : IntKind.i64.wrap (n : Int) = n := by rw [IntKind.wrap_i64]; omega
 have h63' : ¬ (9223372036854775807 < (n : Int)) := by omega
 have h48' : ¬ (281474976710656 < Builtin.nextslicecap n c * i.bytes) := by have := growslice_fits (bytes := i.bytes) hk hby; omega
 have h48i : ¬ (281474976710656 < (n : Int) * (i.bytes : Int)) := by
  rw [← Int.natCast_mul]
  omega
 have hneg : ¬ ((n : Int) < 0) := by omega
 have hns : ¬ (n * i.size = 0) := Nat.mul_ne_zero hn ow
 have hck : ¬ n ≤ c := by omega
 have hf : (Builtin.firstCells i.size 0 (.slice A 0 c)).run P w.drew = .ok #[] w.drew := by cases A <;> simp [Builtin.firstCells, loadCells, loadCellsFrom]
 simp [Builtin.append_, run_underlying ht, run_underlying htn, sizeOf, typeInfo, zeroValue, hi, hz, asInt, asIntOf, hw, hneg, hns, h63', h48', h48i, hck, Question.forced, hf, newRow, grownCap]
theorem CT {A : y8} {c k sz bytes : Nat} (ht : C.P.underlying T = some (.slice e)) (htn : C.P.underlying T2 = some (.int .i64)) (he : S3 C.P e sz bytes) (hx : env.ev x = .slice A 0 c) (hy : env.ev y = .int .i64 (k : Int)) (hk : c < k) (hkm : k ≤ maxLen) (hby : k * bytes ≤ 140737488355328)
  (h : ∀ b c' cs, k ≤ c' → c' ≤ maxLen → cs.length = c' * sz → K (.slice (some ⟨b, 0, none⟩) k c') (Blk b e cs :: L)) : OpV C ⟨dst, .call { callee := .builtin .append, args := #[x, y], argTypes := #[T, T2] }, ty, po, af, gj⟩ env L K := fun w hw => by
 obtain ⟨i, zv, hi, hz, hsz, hb, hzs, hpos⟩ := he
 have hrun := zah (P := C.P) w T T2 ty e i zv ht htn hi hz A c k (by rw [hsz]; exact hpos) hk hkm (by rw [hb]; exact hby)
 have hrun' : (execOp env.ev ⟨dst, .call { callee := .builtin .append, args := #[x, y], argTypes := #[T, T2] }, ty, po, af, gj⟩).run C.P w = .ok (.value (.slice (some ⟨w.heap.size, 0, none⟩) k (grownCap w k c e))) (w.drew.alloc (.cells (Builtin.zeroCells zv.cells k ++ Builtin.zeroCells zv.cells (grownCap w k c e - k)) e)) := by
  simp only [execOp, resolve, invoke, builtin, Sem.run_bind, Sem.run_pure, Result.andThen_ok, List.map_toArray, List.map_cons, List.map_nil, hx, hy, hrun]
 rw [hrun']
 have hge := grownCap_ge w k c e
 have hcm : grownCap w k c e ≤ maxLen := grownCap_le_maxLen w k c e hkm
 refine ⟨_, ?_, h w.heap.size (grownCap w k c e) (Builtin.zeroCells zv.cells k ++ Builtin.zeroCells zv.cells (grownCap w k c e - k)).toList hge hcm ?_⟩
 ·have hg : w.grownBy (w.drew.alloc (.cells (Builtin.zeroCells zv.cells k ++ Builtin.zeroCells zv.cells (grownCap w k c e - k)) e)) none := ⟨rfl, rfl, rfl, by simp, fun k hk _ => heap_alloc_old w.drew _ k hk⟩
  have hst := rM (A' := Blk w.heap.size e (Builtin.zeroCells zv.cells k ++ Builtin.zeroCells zv.cells (grownCap w k c e - k)).toList) hg (by
   show (w.drew.alloc _).heap[w.heap.size]? = _
   rw [Array.toArray_toList]; exact heap_alloc_new w.drew _) (fun b hb => by
    obtain rfl : b = w.heap.size := List.mem_singleton.1 hb
    exact ⟨by simp, .inr (Nat.le_refl _)⟩) (List.pairwise_singleton _ _)
  have hw' : St C.w0 C.M ([] ++ L) w := hw
  exact hw'.frame hst
 ·rw [Array.length_toList, Array.size_append, size_zeroCells, size_zeroCells, hzs, ← Nat.add_mul]
  congr 1; omega
theorem zb3 {f : FuncId} {fn : Func} {TR T1 T2 : TypeId} {a1 a2 : Operand} {g1 o1 la ca g2 o2 lb cb sz : Nat} {cs1 cs2 : List Value} {tys : Array TypeId} {fo : Operand} (hf : C.P.funcs[f]? = some fn) (hname : (fn.name == "runtime.NumGoroutine") = false) (hb : fn.body.isNone = true) (hn : Extern.findNext fn = none) (he : Extern.find fn = some (Extern.SlicesOverlaps.overlaps #[T, T] #[TR]))
  (ht : C.P.underlying T = some (.slice e)) (hsz : (C.P.info? e).map (·.size) = some sz) (hfo : env.ev fo = .func (.func f) #[] #[]) (h1 : env.ev a1 = .slice (some ⟨g1, o1, none⟩) la ca) (h2 : env.ev a2 = .slice (some ⟨g2, o2, none⟩) lb cb) (hA : Has C L (Blk g1 T1 cs1)) (hB : Has C L (Blk g2 T2 cs2)) (hg : g1 ≠ g2) (hl : cs2.length ≠ 0) :
  Qt C L ⟨dst, .call { callee := .value fo, args := #[a1, a2], argTypes := tys }, ty, po, af, gj⟩ env (.bool false) := fun w hw => by
 obtain ⟨inf, hin, hs⟩ := Option.map_eq_some_iff.1 hsz
 have k1 : w.heap[g1]? = some (.cells cs1.toArray T1 (0, 0)) := hA w hw
 have k2 : w.heap[g2]? = some (.cells cs2.toArray T2 (0, 0)) := hB w hw
 have hr := Lib.run_overlaps_apart (P := C.P) w T TR e ht sz (fun w => by rw [← hs]; simp [sizeOf, typeInfo, hin]) ⟨g1, o1, none⟩ ⟨g2, o2, none⟩ la ca lb cb hg T1 T2 cs1.length cs2.length (by simp [World.shape?, k1]) (by simp [World.shape?, k2]) hl (by simp [World.frozen?, k1]) (by simp [World.frozen?, k1])
 have hc := run_callFunc_extern hf hname hb hn he #[.slice (some ⟨g1, o1, none⟩) la ca, .slice (some ⟨g2, o2, none⟩) lb cb] w
 rw [hr] at hc
 simp [execOp, resolve, hfo, h1, h2, Deferred.ofValue, invoke, hc]
end Go.E
namespace Go.E
theorem zhy {p : Nat} : ∀ {xs : List Nat}, xs.Pairwise (· < ·) → (∀ x ∈ xs, x / 2 ^ 0 = p) → xs.length ≤ 1
 | [], _, _ => Nat.zero_le _
 | [_], _, _ => Nat.le_refl _
 | x :: y :: xs, h, ha => by
  have h1 := List.rel_of_pairwise_cons h (List.mem_cons_self (a := y) (l := xs))
  have h2 := ha x (List.mem_cons_self ..)
  have h3 := ha y (List.mem_cons_of_mem _ (List.mem_cons_self ..))
  rw [Nat.pow_zero, Nat.div_one] at h2 h3
  omega
theorem vO {ls : List i6} {n : Nat} (h : 0 < n) : (ls.take n).headD e7 = ls.getD 0 e7 := by
 cases ls with
 | nil => simp
 | cons x l => cases n with
  | zero => exact absurd h (Nat.lt_irrefl _)
  | succ n => simp
abbrev Tx := y8 × Nat × List UInt8
def aI (t : Tx) : List Value := [.slice t.1 t.2.2.length t.2.1]
def u3 (t : Tx) : Assn := OwnA 5 1 t.1 t.2.2.length t.2.1 (e9 t.2.2)
theorem mB (ts : List Tx) : (ts.flatMap aI).length = ts.length := by
 induction ts with
 | nil => rfl
 | cons t ts ih => rw [List.flatMap_cons, List.length_append, ih]; simp [aI]; omega
theorem xV {ts : List Tx} {k : Nat} (h : k < ts.length) : (ts.flatMap aI)[k * 1]? = some (.slice (ts.getD k (none, 0, [])).1 (ts.getD k (none, 0, [])).2.2.length (ts.getD k (none, 0, [])).2.1) := by
 have := aW (encL := aI) (sz := 1) (fun _ => rfl) ts k _ (getD_some (none, 0, []) h) 0 _ rfl
 simpa using this
theorem zi1 (ts : List Tx) : ∀ u ∈ ts.flatMap aI, u.oneCell' = true := fun u hu => by
 obtain ⟨a, _, h⟩ := List.mem_flatMap.1 hu
 rw [List.mem_singleton.1 h]; rfl
def I0 (T TT : TypeId) (cb : Nat) (A1 : y8) (lr : List i6) (c1 : Nat) (A2 : y8) (br : List i6) (c2 : Nat) (O : y8) (tt : List Tx) (d : Nat) : List Assn :=
 [Blk cb T [.slice A1 lr.length c1, .slice A2 br.length c2, .slice O tt.length d], OwnA TT 1 O tt.length d (tt.flatMap aI), C1 (tt.map u3)]
structure Less (A : y8) (l : List i6) (n : Nat) (A' : y8) (c' : Nat) : Prop where
 ro : ∀ w M, Ro w M (SlA A (m9 l)) → Ro w M (SlA A' (m9 (l.drop n)))
 cap : (l.drop n).length ≤ c'
theorem Less.zero {A : y8} {l : List i6} {c : Nat} (h : l.length ≤ c) : Less A l 0 A c := ⟨fun w M h => h, h⟩
theorem Less.next {A A' A'' : y8} {l : List i6} {n m c' c'' : Nat} (h : Less A l n A' c') (k : Less A' (l.drop n) m A'' c'') : Less A l (n + m) A'' c'' :=
 ⟨fun w M r => by have := k.ro w M (h.ro w M r); rwa [List.drop_drop] at this, by have := k.cap; rwa [List.drop_drop] at this⟩
theorem Less.one {A : y8} {l : List i6} {c : Nat} (h : l.length ≤ c) (h0 : 0 < l.length) : Less A l 1 (if c = 1 then A else A.map (·.add (1 * 32))) (c - 1) :=
 ⟨fun w M r => by
  have h2 := r.cut (c := c) (l := 1) (k := 1 * 32) (fun e => by rw [m7]; omega)
  rwa [oP] at h2, by rw [List.length_drop]; omega⟩
theorem zba {xs : List Nat} {l p : Nat} {lr br : List i6} (hx : xs ≠ []) (hs : xs.Pairwise (· < ·)) (ha : ∀ x ∈ xs, x / 2 ^ (l + 1) = p) :
  F2 (l + 1) xs p (lr.take xs.length) (br.take (l7 (l + 1) xs p).length) =
   F8 (l + 1) (F2 l (n6 xs l (2 * p)) (2 * p) (lr.take (n6 xs l (2 * p)).length) (br.take (l7 l (n6 xs l (2 * p)) (2 * p)).length))
    (F2 l (n6 xs l (2 * p + 1)) (2 * p + 1) ((lr.drop (n6 xs l (2 * p)).length).take (n6 xs l (2 * p + 1)).length) ((br.drop (l7 l (n6 xs l (2 * p)) (2 * p)).length).take (l7 l (n6 xs l (2 * p + 1)) (2 * p + 1)).length)) ∧
  S0 (l + 1) xs p (lr.take xs.length) (br.take (l7 (l + 1) xs p).length) =
   S0 l (n6 xs l (2 * p)) (2 * p) (lr.take (n6 xs l (2 * p)).length) (br.take (l7 l (n6 xs l (2 * p)) (2 * p)).length) ++
   S0 l (n6 xs l (2 * p + 1)) (2 * p + 1) ((lr.drop (n6 xs l (2 * p)).length).take (n6 xs l (2 * p + 1)).length) ((br.drop (l7 l (n6 xs l (2 * p)) (2 * p)).length).take (l7 l (n6 xs l (2 * p + 1)) (2 * p + 1)).length) ++
   [x5 (l + 1) (F2 l (n6 xs l (2 * p)) (2 * p) (lr.take (n6 xs l (2 * p)).length) (br.take (l7 l (n6 xs l (2 * p)) (2 * p)).length))
    (F2 l (n6 xs l (2 * p + 1)) (2 * p + 1) ((lr.drop (n6 xs l (2 * p)).length).take (n6 xs l (2 * p + 1)).length) ((br.drop (l7 l (n6 xs l (2 * p)) (2 * p)).length).take (l7 l (n6 xs l (2 * p + 1)) (2 * p + 1)).length))] := by
 have hn := congrArg List.length (eY l p xs hs ha)
 rw [List.length_append] at hn
 have e : ∀ (zs : List i6) (a b : Nat), (zs.take (a + b)).take a = zs.take a := fun zs a b => by rw [List.take_take]; congr 1; omega
 have f : ∀ (zs : List i6) (a b : Nat), (zs.take (a + b)).drop a = (zs.drop a).take b := fun zs a b => by rw [List.drop_take]; congr 1; omega
 have g : (l7 (l + 1) xs p).length = (l7 l (n6 xs l (2 * p)) (2 * p)).length + (l7 l (n6 xs l (2 * p + 1)) (2 * p + 1)).length := by rw [W7 hx, List.length_append]
 rw [rV hx, rU hx, g, hn, e, f, e, f]
 exact ⟨rfl, rfl⟩
def pO (gh : Nat) (xs : List Nat) (ls bs : List i6) : i6 × Nat :=
 if idxOk gh xs then if ls.length ≠ xs.length then (e7, 2) else if bs.length ≠ (l7 gh xs 0).length then (e7, 5) else (F2 gh xs 0 ls bs, 0) else (e7, 1)
def sW (z : Int) (xs : List Nat) (ls bs : List i6) : i6 × Nat := if z < 0 ∨ 32 < z then (e7, 1) else pO z.toNat xs ls bs
def HR (z : Int) (xs : List Nat) (ls bs : List i6) : List (List UInt8) := if (sW z xs ls bs).2 = 0 then S0 z.toNat xs 0 ls bs else []
theorem cI {gh : Nat} (hh : gh ≤ 32) (xs : List Nat) (ls bs : List i6) : sW (gh : Int) xs ls bs = pO gh xs ls bs := by
 rw [sW, if_neg ow, Int.toNat_natCast]
theorem HI {gh : Nat} {xs : List Nat} {ls bs : List i6} (h : ¬ idxOk gh xs) : pO gh xs ls bs = (e7, 1) := if_neg h
theorem HJ {gh : Nat} {xs : List Nat} {ls bs : List i6} (h : idxOk gh xs) (h2 : ls.length ≠ xs.length) : pO gh xs ls bs = (e7, 2) := by rw [pO, if_pos h, if_pos h2]
theorem HK {gh : Nat} {xs : List Nat} {ls bs : List i6} (h : idxOk gh xs) (h2 : ls.length = xs.length) (h3 : bs.length ≠ (l7 gh xs 0).length) : pO gh xs ls bs = (e7, 5) := by rw [pO, if_pos h, if_neg (fun k => k h2), if_pos h3]
theorem ziR {gh : Nat} {xs : List Nat} {ls bs : List i6} (h : idxOk gh xs) (h2 : ls.length = xs.length) (h3 : bs.length = (l7 gh xs 0).length) : pO gh xs ls bs = (F2 gh xs 0 ls bs, 0) := by rw [pO, if_pos h, if_neg (fun k => k h2), if_neg (fun k => k h3)]
variable {C : Ctx} {Q : EQ} {env : Env} {ops : Array Oper}
theorem T4 {A : Assn} {L R L0 : List Assn} {l : List Oper} (s : L0.Perm (A :: C1 L :: R)) (h : TL C ops Q l env (C1 (L ++ [A]) :: R)) : TL C ops Q l env L0 := fun a w ha hw => h a w ha ((hw.perm s).many_join)
end Go.E
namespace Go.E
set_option linter.unusedSectionVars false
variable {C : Ctx} {Q : EQ} {env : Env} {L : List Assn} {ops : Array Oper} {E : List Nat × List Nat} {F : List Assn} {dn : List Nat}
def LH (C : Ctx) (ops : Array Oper) (Q : EQ) (E : List Nat × List Nat) (F : List Assn) (dn : List Nat) (env : Env) (L : List Assn) (k : Nat) (o : Oper) : Prop :=
 (has E.1 k = true ∧ OpV C o env L fun v L' => Sub F L' ∧ AWl C ops Q E F (k :: dn) (env.putO o.dst v) L') ∨
 (has E.1 k = false ∧ has E.2 k = true ∧ OpV C o env L fun v L' => Sub L L' ∧ AWl C ops Q E F (k :: dn) (env.putO o.dst v) L')
theorem AWl.or {k1 k2 : Nat} {o1 o2 : Oper} (s : Sub F L) (ho1 : ops[k1]? = some o1) (ho2 : ops[k2]? = some o2) (hk : jE ops dn k1 k2 = true) (hr : (S7 dn o1 && (!has dn k1) && F4 ops o1) = true)
    (hd1 : vF o1.dst C.n = true) (hd2 : vF o2.dst C.n = true) (hnd1 : q8 o1 = false) (hnd2 : q8 o2 = false) (hw1 : A3 ops env o1 = true) (hw2 : A3 ops env o2 = true)
    (h1 : LH C ops Q E F dn env L k1 o1) (h2 : LH C ops Q E F dn env L k2 o2) : AWl C ops Q E F dn env L := by
  obtain ⟨X, hX⟩ := s
  refine ⟨X, hX, ?_⟩
  have hk0 := hk
  simp only [jE, Bool.and_eq_true] at hk0
  have hln := kB hk0.1
  have e : ops.size - dn.length = (ops.size - (dn.length + 1)) + 1 := by omega
  simp only [Bool.and_eq_true] at hr
  have hmem := kR ho1 hr.1.1 (by simpa using hr.1.2) (iP hr.2)
  show AW C ops (SubQ Q) E F (ops.size - dn.length) (D2 ops.size dn) env X
  rw [e]
  have go : ∀ k o, ops[k]? = some o → A3 ops env o = true → LH C ops Q E F dn env L k o → (if A3 ops env o then
        (if has E.1 k then OpV C o env (F ++ X) (fun v L' => ∃ X', Sub (F ++ X') L' ∧ AW C ops (SubQ Q) E F (ops.size - (dn.length + 1)) ((D2 ops.size dn).setIfInBounds k true) (env.putO o.dst v) X')
        else if has E.2 k then OpV C o env (F ++ X) (fun v L' => ∃ X', Sub (F ++ X') L' ∧ Sub X X' ∧ AW C ops (SubQ Q) E F (ops.size - (dn.length + 1)) ((D2 ops.size dn).setIfInBounds k true) (env.putO o.dst v) X')
        else ∃ v, Cal C o env v (F ++ X) ∧ AW C ops (SubQ Q) E F (ops.size - (dn.length + 1)) ((D2 ops.size dn).setIfInBounds k true) (env.putO o.dst v) X)
      else AW C ops (SubQ Q) E F (ops.size - (dn.length + 1)) ((D2 ops.size dn).setIfInBounds k true) (env.putO o.dst undef) X) := by
    rintro k o ho hw (⟨he, h⟩ | ⟨he1, he2, h⟩)
    · rw [if_pos hw, if_pos he, Z3]
      exact (h.sub (e5 hX.symm)).mono fun v L' ⟨hs, X', hX', hA⟩ => ⟨X', e5 hX', hA⟩
    · rw [if_pos hw, if_neg (by simp [he1]), if_pos he2, Z3]
      exact (h.sub (e5 hX.symm)).mono fun v L' ⟨hs, X', hX', hA⟩ => ⟨X', e5 hX', uP (((e5 hX).trans hs).trans (e5 hX'.symm)), hA⟩
  refine ⟨(fun h0 => absurd (h0 ▸ hmem) (by simp)), fun i hi o' ho' => ?_⟩
  rcases sK hk i hi with rfl | rfl
  · obtain rfl : o' = o1 := by rw [ho1] at ho'; injection ho' with e; exact e.symm
    exact ⟨hd1, hnd1, go _ _ ho1 hw1 h1⟩
  · obtain rfl : o' = o2 := by rw [ho2] at ho'; injection ho' with e; exact e.symm
    exact ⟨hd2, hnd2, go _ _ ho2 hw2 h2⟩
variable {k1 k2 d1 d2 : Nat} {op1 op2 : Op} {ty1 ty2 : TypeId} {pos1 pos2 : String} {after1 after2 : Array Edge}
theorem AZ (s : Sub F L) (ho1 : ops[k1]? = some ⟨some d1, op1, ty1, pos1, after1, none⟩) (ho2 : ops[k2]? = some ⟨some d2, op2, ty2, pos2, after2, none⟩) (hk : jE ops dn k1 k2 = true) (hr : (S7 dn ⟨some d1, op1, ty1, pos1, after1, none⟩ && (!has dn k1) && F4 ops ⟨some d1, op1, ty1, pos1, after1, none⟩) = true)
  (hd1 : Nat.blt d1 C.n = true) (hd2 : Nat.blt d2 C.n = true) (hnd1 : q8 ⟨some d1, op1, ty1, pos1, after1, none⟩ = false) (hnd2 : q8 ⟨some d2, op2, ty2, pos2, after2, none⟩ = false)
  (h1 : OpV C ⟨some d1, op1, ty1, pos1, after1, none⟩ env L fun v L' => Sub L L' ∧ AWl C ops Q E F (k1 :: dn) (env.put d1 v) L')
  (h2 : OpV C ⟨some d2, op2, ty2, pos2, after2, none⟩ env L fun v L' => Sub L L' ∧ AWl C ops Q E F (k2 :: dn) (env.put d2 v) L')
  (e1 : has E.1 k1 = false ∧ has E.2 k1 = true := by exact ⟨rfl, rfl⟩) (e2 : has E.1 k2 = false ∧ has E.2 k2 = true := by exact ⟨rfl, rfl⟩) : AWl C ops Q E F dn env L :=
 AWl.or s ho1 ho2 hk hr hd1 hd2 hnd1 hnd2 rfl rfl (.inr ⟨e1.1, e1.2, h1⟩) (.inr ⟨e2.1, e2.2, h2⟩)
theorem zi3 (s : Sub F L) (ho1 : ops[k1]? = some ⟨some d1, op1, ty1, pos1, after1, none⟩) (ho2 : ops[k2]? = some ⟨some d2, op2, ty2, pos2, after2, none⟩) (hk : jE ops dn k1 k2 = true) (hr : (S7 dn ⟨some d1, op1, ty1, pos1, after1, none⟩ && (!has dn k1) && F4 ops ⟨some d1, op1, ty1, pos1, after1, none⟩) = true)
  (hd1 : Nat.blt d1 C.n = true) (hd2 : Nat.blt d2 C.n = true) (hnd1 : q8 ⟨some d1, op1, ty1, pos1, after1, none⟩ = false) (hnd2 : q8 ⟨some d2, op2, ty2, pos2, after2, none⟩ = false)
  (h1 : OpV C ⟨some d1, op1, ty1, pos1, after1, none⟩ env L fun v L' => Sub L L' ∧ AWl C ops Q E F (k1 :: dn) (env.put d1 v) L')
  (h2 : OpV C ⟨some d2, op2, ty2, pos2, after2, none⟩ env L fun v L' => Sub F L' ∧ AWl C ops Q E F (k2 :: dn) (env.put d2 v) L')
  (e1 : has E.1 k1 = false ∧ has E.2 k1 = true := by exact ⟨rfl, rfl⟩) (e2 : has E.1 k2 = true := by rfl) : AWl C ops Q E F dn env L :=
 AWl.or s ho1 ho2 hk hr hd1 hd2 hnd1 hnd2 rfl rfl (.inr ⟨e1.1, e1.2, h1⟩) (.inl ⟨e2, h2⟩)
end Go.E
namespace Go.E
set_option linter.unusedSectionVars false
variable {C : Ctx} {Q : EQ} {env : Env} {L : List Assn}
variable {κ α : Type} [DecidableEq κ] {K E e : TypeId} {enc : κ → Value} {encv : α → Value}
variable {dst : Option Tmp} {ty : TypeId} {po : String} {af : Array Edge} {gj : Option (Nat × Bool)} {x y z : Operand} {v : Value} {T : TypeId} {b it ck : Nat} {es : Array MapEntry} {ms : List (κ × α)} {k : κ} {a : α} {K' : Value → List Assn → Prop} {done : List κ}
def CM (it b ck : Nat) (es : Array MapEntry) (enc : κ → Value) (encv : α → Value) (ms : List (κ × α)) (done : List κ) : Assn where
 fp := [it]
 ok w := ∃ ds, w.heap[it]? = some (.mapIter (some b) ck (ds.map (·.born)).toArray ck) ∧ MapInv enc encv ms done es ck ds
 stable w w' h hk := by
  rw [h it (List.mem_cons_self ..)]; exact hk
theorem Ro.raw {w : World} {M : List Nat} (h : Ro w M (u6 b enc encv ms)) : ∃ es ck, Ro w M (IsObj b (.map es ck)) ∧ MapInv enc encv ms [] es ck [] := by
 obtain ⟨⟨es, ck, hb, he, hp, hc, hn⟩, h2⟩ := h
 exact ⟨es, ck, ⟨hb, h2⟩, ⟨he, hp, hc, hn, by simp, by simp⟩⟩
theorem zda (ht : C.P.underlying T = some (.map K E)) (hx : env.ev x = .map (some b)) (hM : Ro C.w0 C.M (u6 b enc encv ms))
  (h : ∀ it ck es, Ro C.w0 C.M (IsObj b (.map es ck)) → K' (.pointer (some ⟨it, 0, none⟩)) (CM it b ck es enc encv ms [] :: L)) : OpV C ⟨dst, .range T x, ty, po, af, gj⟩ env L K' := fun w hw => by
 obtain ⟨es, ck, hr, hv⟩ := hM.raw
 have := yJ (C := C) (env := env) (L := L) (K := fun v L' => ∃ it, v = .pointer (some ⟨it, 0, none⟩) ∧ L' = K4 it b ck [] :: L) (dst := dst) (ty := ty) (po := po) (af := af) (gj := gj) ht hx (c9 hr) (fun it => ⟨it, rfl, rfl⟩)
 refine (this w hw).mono ?_
 rintro v w' ⟨L', hs, it, rfl, rfl⟩
 refine ⟨_, ?_, h it ck es hr⟩
 have h1 : St C.w0 C.M ([] ++ [K4 it b ck []] ++ L) w' := by simpa using hs
 have h2 := h1.conv (N' := [CM it b ck es enc encv ms []]) (by simp [A8, K4, IsObj.fp, CM]) (by
  intro A hA
  simp only [List.mem_singleton] at hA
  subst hA
  exact ⟨[], h1.ok (A := K4 it b ck []) (by simp), hv⟩)
 simpa using h2
theorem zet {L1 L2 : List Assn} (inj : ∀ a b, enc a = enc b → a = b) (hr : Ro C.w0 C.M (IsObj b (.map es ck))) (hx : env.ev x = .pointer (some ⟨it, 0, none⟩))
  (h0 : (∀ p ∈ ms, p.1 ∈ done) → K' (.tuple #[.bool false]) (L1 ++ CM it b ck es enc encv ms done :: L2))
  (h1 : ∀ k a, (k, a) ∈ ms → k ∉ done → K' (.tuple #[.bool true, enc k, encv a]) (L1 ++ CM it b ck es enc encv ms (done ++ [k]) :: L2)) :
  OpV C ⟨dst, .next x false, ty, po, af, gj⟩ env (L1 ++ CM it b ck es enc encv ms done :: L2) K' := fun w hw => by
 obtain ⟨ds, hi, hv⟩ := hw.ok (A := CM it b ck es enc encv ms done) (List.mem_append.2 (.inr (List.mem_cons_self ..)))
 have hst0 : St C.w0 C.M (L1 ++ [CM it b ck es enc encv ms done] ++ L2) w := by simpa using hw
 have hst := hst0.conv (N' := [K4 it b ck ds]) (by simp [A8, K4, IsObj.fp, CM]) (by
  intro A hA
  simp only [List.mem_singleton] at hA
  subst hA
  exact hi)
 have hst2 : St C.w0 C.M (L1 ++ K4 it b ck ds :: L2) w := by simpa using hst
 have back : ∀ {w' : World} {ds' : List MapEntry} {done' : List κ}, St C.w0 C.M (L1 ++ K4 it b ck ds' :: L2) w' → MapInv enc encv ms done' es ck ds' → St C.w0 C.M (L1 ++ CM it b ck es enc encv ms done' :: L2) w' := by
  intro w' ds' done' h hv'
  have h1 : St C.w0 C.M (L1 ++ [K4 it b ck ds'] ++ L2) w' := by simpa using h
  have h2 := h1.conv (N' := [CM it b ck es enc encv ms done']) (by simp [A8, K4, IsObj.fp, CM]) (by
   intro A hA
   simp only [List.mem_singleton] at hA
   subst hA
   exact ⟨ds', h1.ok (A := K4 it b ck ds') (by simp), hv'⟩)
  simpa using h2
 have := yI (C := C) (env := env) (L1 := L1) (L2 := L2) (i := it) (m := b) (ck := ck) (es := es) (ds := ds) (dst := dst) (ty := ty) (po := po) (af := af) (gj := gj)
  (K := fun v L' => ((∀ p ∈ ms, p.1 ∈ done) ∧ v = .tuple #[.bool false] ∧ L' = L1 ++ K4 it b ck ds :: L2) ∨
   (∃ e k a, e ∈ es.toList ∧ e.key = enc k ∧ (k, a) ∈ ms ∧ k ∉ done ∧ v = .tuple #[.bool true, enc k, encv a] ∧ L' = L1 ++ K4 it b ck (ds ++ [e]) :: L2)) hx (c9 hr) hv.lt
  (fun hall => .inl ⟨fun p hp => by
   obtain ⟨e, he, hk, _⟩ := lI hv.ents hp
   obtain ⟨k, hk', h2⟩ := (hv.seen e he).1 (hall e he)
   rw [hk] at h2
   exact inj _ _ h2 ▸ hk', rfl, rfl⟩)
  (fun e he hno => by
   obtain ⟨p, hp, h1, h2⟩ := vG hv.ents he
   exact .inr ⟨e, p.1, p.2, he, h1, hp, fun hd => hno ((hv.seen e he).2 ⟨p.1, hd, h1⟩), by rw [h1, h2], rfl⟩)
 refine (this w hst2).mono ?_
 rintro v w' ⟨L', hs, ⟨hall, rfl, rfl⟩ | ⟨e, k, a, he, hk, hm, hd, rfl, rfl⟩⟩
 ·exact ⟨_, back hs hv, h0 hall⟩
 ·exact ⟨_, back hs (hv.step inj he hk), h1 k a hm hd⟩
theorem zew {done : List κ} (hr : Ro C.w0 C.M (IsObj b (.map es ck))) (hx : env.ev x = .pointer (some ⟨it, 0, none⟩)) (h : Has C L (CM it b ck es enc encv ms (done ++ [k]))) (hm : (k, a) ∈ ms) :
  Qt C L ⟨dst, .entry x, ty, po, af, gj⟩ env (.tuple #[enc k, encv a]) := fun w hw => by
 obtain ⟨ds, hi, hv⟩ := h w hw
 have hb : w.heap[b]? = some (.map es ck) := hr.at hw
 obtain ⟨e, he, hk, ha⟩ := lI hv.ents hm
 obtain ⟨ds', e', rfl, hbn⟩ := hv.last _ _ rfl e he hk
 have hgi := dL (P := C.P) (by intro c t f e; cases e) hi
 have hback : (((ds' ++ [e']).map (·.born)).toArray).back? = some e.born := by simp [hbn]
 have hfind : es.find? (fun x => x.born == e.born) = some e := by
  rw [← Array.find?_toList]
  exact qF hv.pw he
 simp only [execOp, hx, Instr.entry, Sem.run_bind, hgi, Result.andThen_ok, hback, I6 hb, bne_self_eq_false, Bool.false_eq_true, if_false, Sem.run_pure, hfind, hk, ha]
theorem zc7 {R : List Assn} (inj : ∀ a b, enc a = enc b → a = b) (hr : Ro C.w0 C.M (IsObj b (.map es ck))) (hx : env.ev x = .pointer (some ⟨it, 0, none⟩))
  (h0 : (∀ p ∈ ms, p.1 ∈ done) → K' (.tuple #[.bool false]) (CM it b ck es enc encv ms done :: R))
  (h1 : ∀ k a, (k, a) ∈ ms → k ∉ done → K' (.tuple #[.bool true, enc k, encv a]) (CM it b ck es enc encv ms (done ++ [k]) :: R)) :
  OpV C ⟨dst, .next x false, ty, po, af, gj⟩ env (CM it b ck es enc encv ms done :: R) K' := zet (L1 := []) inj hr hx h0 h1
end Go.E
namespace Go.E
set_option linter.unusedSectionVars false
variable {C : Ctx} {Q : EQ} {env : Env} {L : List Assn} {α : Type}
def KO (P : Program) (gf : FuncId) (cap : Array Value) (enc : α → List Value) (S Sp Pf : List α → Prop) (w : World) (L : List Assn) : Prop :=
 ∀ (l : Nat) (J : Bool → List α → List Assn → Prop), J true [] L →
  (∀ pre x w' L', Pf (pre ++ [x]) → J true pre L' → St w (A8 L) L' w' → YieldAt Fence.wide 0 P l (enc x).toArray w' fun e w'' => ∃ L'', St w' (A8 L') L'' w'' ∧
   ((e = .returned (.bool true) ∧ J true (pre ++ [x]) L'') ∨ (e = .returned (.bool false) ∧ J false (pre ++ [x]) L''))) →
  Calls P gf (#[.func (.yield l) #[] #[]] ++ cap) w (D0 w (A8 L) fun v L' => (∃ xs, S xs ∧ J true xs L') ∨ (∃ pre, Sp pre ∧ J false pre L'))
theorem gJ {g : Operand} {ps : Array Tmp} {assign body : Code} {gf : FuncId} {cap : Array Value} (enc : α → List Value) (S Sp Pf : List α → Prop) (J : List α → List Assn → Prop) (Jx : Code → List α → List Assn → Prop) {L0 R : List Assn}
  (hr : C.r = none) (hg : env.ev g = .func (.func gf) #[] cap) (he : p8 C.P gf) (hps : ps.toList.all (fun p => Nat.blt p C.n) = true) (hsz : ∀ x, (enc x).length = ps.size) (hL : L.Perm (L0 ++ R)) (h0 : J [] L0)
  (hgen : ∀ w L', St C.w0 C.M (L' ++ R) w → KO C.P gf cap enc S Sp Pf w L')
  (hround : ∀ (w' : World) (l D : Nat) (Rr Rb : Assn) (pre : List α) (x : α) (L' : List Assn), Pf (pre ++ [x]) → J pre L' → St C.w0 C.M ((Rr :: eQ D :: L') ++ R) w' →
   TC ⟨C.P, C.n, w', A8 (Rr :: eQ D :: L'), some l⟩ assign (GF ⟨C.P, C.n, w', A8 (Rr :: eQ D :: L'), some l⟩ body Rr Rb D J Jx (pre ++ [x])) (JX env ps.toList (enc x)) (Rr :: eQ D :: L'))
  (hdone : ∀ D xs L', S xs → J xs L' → Q .normal (env.mark D) (eQ D :: (L' ++ R)))
  (hstop : ∀ D c pre L', Sp pre → Jx c pre L' → TC C c Q (env.mark D) (eQ D :: (L' ++ R))) : TC C (.rangeFunc g ps assign body) Q env L := by
 intro a w ha hw
 refine wpIn_rangeFunc ?_
 intro fn hfn
 obtain ⟨D, hD⟩ : ∃ D, D = w.heap.size := ⟨_, rfl⟩
 obtain ⟨rec, hrec⟩ : ∃ rec : LoopState → Option Code → Loop, rec = fun st pe => { state := st, pending := pe, fn, tmps := a.tmps, params := ps, assign, body, defers := w.heap.size } := ⟨_, rfl⟩
 have hpend : ∀ st pe, (rec st pe).pending = pe := fun st pe => by rw [hrec]
 have hstate : ∀ st pe, (rec st pe).state = st := fun st pe => by rw [hrec]
 have hpar : ∀ st pe, (rec st pe).params = ps := fun st pe => by rw [hrec]
 have hwith : ∀ st pe st' pe', ({ rec st pe with state := st', pending := pe' } : Loop) = rec st' pe' := fun st pe st' pe' => by rw [hrec]
 obtain ⟨W1, hW1⟩ : ∃ W1, (w.alloc (.deferred (some []))).alloc (.loop (rec .ready none)) = W1 := ⟨_, rfl⟩
 have hw0 : St C.w0 C.M (L0 ++ R) w := hw.perm hL
 have hst1 : St C.w0 C.M (IsObj (D + 1) (.loop (rec .ready none)) :: eQ D :: (L0 ++ R)) W1 := by
  have h := (hw0.alloc (.deferred (some []))).alloc (.loop (rec .ready none))
  rw [World.size_alloc, hW1, ← hD] at h
  exact h
 have hfr : (FW C.r).round = none := hr
 rw [hfr]
 have hev : a.eval g = .func (.func gf) #[] cap := by rw [ha.ev]; exact hg
 refine ⟨w.heap.size + 1, [sF w.heap.size], W1, { target := .fn (.func gf) cap, args := #[.func (.yield (w.heap.size + 1)) #[] #[]] }, W1, gf,
  #[.func (.yield (w.heap.size + 1)) #[] #[]] ++ cap, W1, ?_, ?_, fun _ _ => trivial, ?_, (fun h => Bool.noConfusion h), ?_⟩
 ·rw [← hW1, hrec]; exact run_enterLoop_outer _ _ _ _ _
 ·simp only [resolve, hev]
  simp [go_sem]
 ·simp [invoke, go_sem, jN he]
 ·refine mU ?_
  have hsat : St C.w0 C.M ((IsObj (D + 1) (.loop (rec .ready none)) :: eQ D :: L0) ++ R) W1 := hst1
  have hrun := hgen W1 _ hsat (D + 1)
   (fun b pre L'' => if b then ∃ L', L'' = IsObj (D + 1) (.loop (rec .ready none)) :: eQ D :: L' ∧ J pre L' else ∃ c L', L'' = IsObj (D + 1) (.loop (rec .done (some c))) :: eQ D :: L' ∧ Jx c pre L')
   (by simp only [if_true]; exact ⟨L0, rfl, h0⟩) ?_
  ·rw [hD] at hrun
   refine hrun.mono ?_
   rintro e w3 ⟨v, L'', rfl, hs, hcase⟩
   rw [← hD] at hs hcase ⊢
   have hs2 := hsat.frame hs
   rcases hcase with ⟨xs, hS, hJ⟩ | ⟨pre, hSp, hJ⟩
   ·simp only [if_true] at hJ
    obtain ⟨L', rfl, hJ⟩ := hJ
    have hl : w3.heap[D + 1]? = some (.loop (rec .ready none)) := hs2.ok (A := IsObj (D + 1) _) (List.mem_cons_self ..)
    have hrun2 := run_endLoop (P := C.P) hl (by rw [hstate]; simp)
    refine ⟨none, _, hrun2.trans (by rw [hpend]), ?_⟩
    exact ⟨env.mark D, _, ⟨by show sF D :: a.defers = _; rw [ha.1]; rfl, ha.2.1, ha.2.2⟩, (St.putObj (L := eQ D :: (L' ++ R)) hs2 _).sub (Sub.drop _ (Sub.refl _)), hdone D xs L' hS hJ⟩
   ·simp only [Bool.false_eq_true, if_false] at hJ
    obtain ⟨c, L', rfl, hJ⟩ := hJ
    have hl : w3.heap[D + 1]? = some (.loop (rec .done (some c))) := hs2.ok (A := IsObj (D + 1) _) (List.mem_cons_self ..)
    have hrun2 := run_endLoop (P := C.P) hl (by rw [hstate]; simp)
    refine ⟨some c, _, hrun2.trans (by rw [hpend]), ?_⟩
    exact hstop D c pre L' hSp hJ _ _ ⟨by show sF D :: a.defers = _; rw [ha.1]; rfl, ha.2.1, ha.2.2⟩ ((St.putObj (L := eQ D :: (L' ++ R)) hs2 _).sub (Sub.drop _ (Sub.refl _)))
  ·rintro pre x w' L'' hPf hJ hst
   simp only [if_true] at hJ
   obtain ⟨L', rfl, hJ⟩ := hJ
   have hst' := hsat.frame hst
   have hl : w'.heap[D + 1]? = some (.loop (rec .ready none)) := hst'.ok (A := IsObj (D + 1) _) (List.mem_cons_self ..)
   have hy := run_yield (P := C.P) (args := (enc x).toArray) hl (by rw [hrec]; simp [hsz])
   have hbody := hround w' (D + 1) D (IsObj (D + 1) (.loop (rec .ready none))) (IsObj (D + 1) (.loop (rec .busy none))) pre x L' hPf hJ hst'
   rw [hrec] at hy
   refine ⟨fn, _, assign, body, hy, roundIn_of_wpIn trivial ?_⟩
   have hfit : Fits C.n { tmps := (ps.zip (enc x).toArray).foldl (fun tmps (t, a) => tmps.setIfInBounds t a) a.tmps, defers := [] } (JX env ps.toList (enc x)) := by
    have h := Fits.params ps.toList (enc x) a.tmps env ha.2.1 ha.2.2 hps
    have hz : (ps.zip (enc x).toArray).foldl (fun tmps (t, a) => tmps.setIfInBounds t a) a.tmps = (ps.toList.zip (enc x)).foldl (fun (t : Array Value) (q : Nat × Value) => t.setIfInBounds q.1 q.2) a.tmps := by
     rw [← Array.foldl_toList, Array.toList_zip]
    rw [hz]
    exact ⟨rfl, h.1, h.2⟩
   refine wpIn_mono (hbody _ w' hfit (eJ hst'.sat.left)) ?_
   rintro e1 a1 w1 ⟨e, L1, hf1, hs1, hq1⟩
   cases e1 with
   | normal =>
    obtain ⟨L2, hsub, hb⟩ := hq1
    have hs2 := hs1.sub hsub
    have hl1 : w1.heap[D + 1]? = some (.loop (rec .ready none)) := hs2.ok (A := IsObj (D + 1) _) (List.mem_cons_self ..)
    refine ⟨_, run_beginRound hl1 (by rw [hrec]), ?_⟩
    have hs3 := St.putObj hs2 (.loop { rec .ready none with state := .busy })
    have hbz : ({ rec .ready none with state := .busy } : Loop) = rec .busy none := by rw [hrec]
    rw [hbz] at hs3 ⊢
    refine wpIn_mono (hb _ _ hf1 hs3) ?_
    have fin : ∀ (jump : Option Code) (w3 : World) (L3 L4 : List Assn), St w' (A8 (IsObj (D + 1) (.loop (rec .ready none)) :: eQ D :: L')) L3 w3 → Sub (IsObj (D + 1) (.loop (rec .busy none)) :: eQ D :: L4) L3 →
      ∃ w4, (Instr.endRound (D + 1) jump).run C.P w3 = .ok (.bool jump.isNone) w4 ∧ St w' (A8 (IsObj (D + 1) (.loop (rec .ready none)) :: eQ D :: L')) (IsObj (D + 1) (.loop (rec (if jump.isNone then .ready else .done) jump)) :: eQ D :: L4) w4 := by
     intro jump w3 L3 L4 h3 hsb
     have h4 := h3.sub hsb
     have hl3 : w3.heap[D + 1]? = some (.loop (rec .busy none)) := h4.ok (A := IsObj (D + 1) _) (List.mem_cons_self ..)
     have hrun := run_endRound (P := C.P) jump (by rw [hrec] at hl3; exact hl3)
     refine ⟨_, hrun, ?_⟩
     have := St.putObj h4 (.loop (rec (if jump.isNone then .ready else .done) jump))
     rw [hrec] at this ⊢
     exact this
    rintro e2 a2 w3 ⟨e', L3, hf3, hs4, hq3⟩
    cases e2 with
    | normal =>
     obtain ⟨L4, hsb, hj⟩ := hq3
     obtain ⟨w4, hr4, hs5⟩ := fin none w3 L3 L4 hs4 hsb
     exact ⟨_, w4, hr4, _, hs5, .inl ⟨rfl, by simp only [if_true]; exact ⟨L4, rfl, hj⟩⟩⟩
    | ret =>
     obtain ⟨L4, hsb, hj⟩ := hq3
     obtain ⟨w4, hr4, hs5⟩ := fin (some .ret) w3 L3 L4 hs4 hsb
     exact ⟨_, w4, hr4, _, hs5, .inr ⟨rfl, by simp only [Bool.false_eq_true, if_false]; exact ⟨.ret, L4, rfl, hj⟩⟩⟩
    | exit id =>
     obtain ⟨L4, hsb, hj⟩ := hq3
     obtain ⟨w4, hr4, hs5⟩ := fin (some (.exit id)) w3 L3 L4 hs4 hsb
     exact ⟨_, w4, hr4, _, hs5, .inr ⟨rfl, by simp only [Bool.false_eq_true, if_false]; exact ⟨.exit id, L4, rfl, hj⟩⟩⟩
    | goto t => exact hq3.elim
    | panic ch => exact hq3.elim
    | outgrown => exact hq3.elim
   | ret => exact hq1.elim
   | exit id => exact hq1.elim
   | goto t => exact hq1.elim
   | panic ch => exact hq1.elim
   | outgrown => exact hq1.elim
end Go.E
namespace Go.E
theorem uL {C : Ctx} {env : Env} {α : Type} {dst : Option Tmp} {ty : TypeId} {po : String} {af : Array Edge} {gj : Option (Nat × Bool)} {f : Operand} {args : Array Operand} {tys : Array TypeId} {K : Value → List Assn → Prop} {enc : α → List Value} {l : Nat} {J : Bool → List α → List Assn → Prop} {pre : List α} (x : α) {L1 L' : List Assn}
  (hY : ∀ w' L', J true pre L' → St C.w0 C.M L' w' → YieldAt Fence.wide 0 C.P l (enc x).toArray w' fun e w'' => ∃ L'', St w' (A8 L') L'' w'' ∧
   ((e = .returned (.bool true) ∧ J true (pre ++ [x]) L'') ∨ (e = .returned (.bool false) ∧ J false (pre ++ [x]) L'')))
  (hx : env.ev f = .func (.yield l) #[] #[]) (ha : args.toList.map env.ev = enc x) (hJ : J true pre L')
  (ht : ∀ L'', J true (pre ++ [x]) L'' → K (.bool true) (L1 ++ L'')) (hf : ∀ L'', J false (pre ++ [x]) L'' → K (.bool false) (L1 ++ L'')) :
  OpV C ⟨dst, .call { callee := .value f, args := args, argTypes := tys }, ty, po, af, gj⟩ env (L1 ++ L') K := fun w hw => by
 have hp : St C.w0 C.M (L' ++ L1) w := hw.perm List.perm_append_comm
 obtain ⟨fn, tmps, assign, body, hy, hR⟩ := hY w L' hJ hp.left
 have hargs : args.map env.ev = (enc x).toArray := by
  apply Array.ext'
  rw [Array.toList_map, ha]
 have hrun : (execOp env.ev ⟨dst, .call { callee := .value f, args := args, argTypes := tys }, ty, po, af, gj⟩).run C.P w = .ok (.round l fn tmps assign body) w := by
  simp [execOp, resolve, invoke, hx, hargs, Deferred.ofValue, hy]
 rw [hrun]
 show RoundIn (FW C.r) 0 C.P l fn tmps assign body w _
 have hR' : RoundIn (FW C.r) 0 C.P l fn tmps assign body w _ := hR
 refine hR'.mono ?_
 rintro e w'' ⟨L'', hs, ⟨rfl, hj⟩ | ⟨rfl, hj⟩⟩
 ·exact ⟨_, rfl, _, (hp.frame hs).perm List.perm_append_comm, ht L'' hj⟩
 ·exact ⟨_, rfl, _, (hp.frame hs).perm List.perm_append_comm, hf L'' hj⟩
end Go.E
