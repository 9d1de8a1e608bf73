/- Plain words: the nodes of a proof. -/
import Derived.Test.YtgdjcmehlhebdaaGreatDoorY2
set_option maxHeartbeats 25600000
namespace Go.E
def cutN (xs : List Nat) (l q : Nat) : List Nat := xs.filter fun x => x / 2 ^ l == q
theorem zcg {xs : List Nat} {l q : Nat} : ∀ x ∈ cutN xs l q, x / 2 ^ l = q := fun x hx => by
 have := (List.mem_filter.1 hx).2; simpa using this
theorem zbN {xs : List Nat} {l q : Nat} (h : xs.Pairwise (· < ·)) : (cutN xs l q).Pairwise (· < ·) := h.sublist List.filter_sublist
theorem zfY (xs : List Nat) (l q : Nat) : (cutN xs l q).length ≤ xs.length := List.length_filter_le ..
theorem zin {xs : List Nat} {l p : Nat} (h : ∀ x ∈ xs, x / 2 ^ l = p) : cutN xs l p = xs := List.filter_eq_self.2 fun x hx => by simpa using h x hx
theorem zgy {xs : List Nat} {l p : Nat} (h : ∀ x ∈ xs, x / 2 ^ l ≠ p) : cutN xs l p = [] := List.filter_eq_nil_iff.2 fun x hx => by simpa using h x hx
theorem zio (l p : Nat) : ∀ xs : List Nat, (cutN xs l (2 * p)).length + (cutN xs l (2 * p + 1)).length ≤ xs.length
 | [] => Nat.le_refl _
 | x :: xs => by
  have h := zio l p xs
  simp only [cutN, List.filter_cons, List.length_cons] at h ⊢
  by_cases a : x / 2 ^ l = 2 * p
  ·have b : ¬ (x / 2 ^ l = 2 * p + 1) := by omega
   simp only [beq_iff_eq, a, if_true, if_false, List.length_cons, show ¬ (2 * p = 2 * p + 1) by omega]; omega
  ·by_cases b : x / 2 ^ l = 2 * p + 1
   ·simp only [beq_iff_eq, b, if_true, if_false, List.length_cons, show ¬ (2 * p + 1 = 2 * p) by omega]; omega
   ·simp only [beq_iff_eq, a, b, if_false]; omega
def zaj : Nat → List Nat → Nat → Sd
 | 0, xs, p => if xs = [] then [(0, p)] else []
 | l + 1, xs, p => if xs = [] then [(l + 1, p)] else zaj l (cutN xs l (2 * p)) (2 * p) ++ zaj l (cutN xs l (2 * p + 1)) (2 * p + 1)
theorem zbF (l p : Nat) : zaj l [] p = [(l, p)] := by cases l <;> rfl
theorem zd7 {xs : List Nat} {p : Nat} (h : xs ≠ []) : zaj 0 xs p = [] := if_neg h
theorem zcc {xs : List Nat} {l p : Nat} (h : xs ≠ []) : zaj (l + 1) xs p = zaj l (cutN xs l (2 * p)) (2 * p) ++ zaj l (cutN xs l (2 * p + 1)) (2 * p + 1) := if_neg h
theorem zdO : ∀ (l : Nat) (xs : List Nat) (p : Nat), (zaj l xs p).length ≤ xs.length * l + 1
 | 0, xs, p => by rw [zaj]; split <;> simp
 | l + 1, xs, p => by
  rw [zaj]
  split
  ·simp
  ·rename_i h
   have h1 := zdO l (cutN xs l (2 * p)) (2 * p)
   have h2 := zdO l (cutN xs l (2 * p + 1)) (2 * p + 1)
   have h3 := zio l p xs
   have h4 : 0 < xs.length := List.length_pos_iff.2 h
   rw [List.length_append]
   have h5 : (cutN xs l (2 * p)).length * l + (cutN xs l (2 * p + 1)).length * l ≤ xs.length * l := by rw [← Nat.add_mul]; exact Nat.mul_le_mul_right _ h3
   rw [Nat.mul_succ]; omega
theorem zlS {xs : List Nat} {l p i : Nat} (hs : xs.Pairwise (· < ·)) (hx : ∀ x ∈ xs, x / 2 ^ (l + 1) = p) (h1 : ∀ j, j < i → xs.getD j 0 / 2 ^ l = 2 * p) (h2 : i < xs.length → xs.getD i 0 / 2 ^ l ≠ 2 * p) :
  xs.take i = cutN xs l (2 * p) ∧ xs.drop i = cutN xs l (2 * p + 1) := by
 have hT : ∀ x ∈ xs.take i, x / 2 ^ l = 2 * p := fun x hm => by
  obtain ⟨j, hj, rfl⟩ := List.mem_take_iff_getElem.1 hm
  have := h1 j ow
  rwa [show xs.getD j 0 = xs[j] by simp [List.getD, show j < xs.length by omega]] at this
 have hD : ∀ x ∈ xs.drop i, x / 2 ^ l = 2 * p + 1 := fun x hm => by
  have hi : i < xs.length := by
   rcases Nat.lt_or_ge i xs.length with h | h
   ·exact h
   ·rw [List.drop_of_length_le h] at hm; cases hm
  have hh := h2 hi
  rw [show xs.getD i 0 = xs[i] by simp [List.getD, hi]] at hh
  have hp := hx xs[i] (List.getElem_mem hi)
  rw [← zay] at hp
  have hxp := hx x (List.mem_of_mem_drop hm)
  rw [← zay] at hxp
  have hle : xs[i] ≤ x := by
   have hd := hs.sublist (List.drop_sublist i xs)
   rw [List.drop_eq_getElem_cons hi] at hm hd
   rcases List.mem_cons.1 hm with rfl | hm
   ·exact Nat.le_refl _
   ·exact Nat.le_of_lt (List.rel_of_pairwise_cons hd hm)
  have hq := Nat.div_le_div_right (c := 2 ^ l) hle
  generalize xs[i] / 2 ^ l = a at hh hp hq
  generalize x / 2 ^ l = b at hxp hq ⊢
  omega
 have e : ∀ q, cutN xs l q = cutN (xs.take i) l q ++ cutN (xs.drop i) l q := fun q => by
  unfold cutN; rw [← List.filter_append, List.take_append_drop]
 constructor
 ·rw [e, zin hT, zgy (fun x hm => by rw [hD x hm]; omega), List.append_nil]
 ·rw [e, zin hD, zgy (fun x hm => by rw [hT x hm]; omega), List.nil_append]
def zkC (height : Nat) (xs : List Nat) (k : Nat) : Prop := ∀ j, j < k → xs.getD j 0 < 2 ^ height ∧ (0 < j → xs.getD (j - 1) 0 < xs.getD j 0)
instance (height : Nat) (xs : List Nat) (k : Nat) : Decidable (zkC height xs k) := inferInstanceAs (Decidable (∀ j, j < k → _))
def idxOk (height : Nat) (xs : List Nat) : Prop := 1 ≤ xs.length ∧ xs.length ≤ 256 ∧ zkC height xs xs.length
instance (height : Nat) (xs : List Nat) : Decidable (idxOk height xs) := inferInstanceAs (Decidable (_ ∧ _ ∧ _))
theorem zmL (height : Nat) (xs : List Nat) : zkC height xs 0 := fun j h => absurd h (Nat.not_lt_zero _)
theorem zhH {height : Nat} {xs : List Nat} {k : Nat} (h : zkC height xs k) (h1 : xs.getD k 0 < 2 ^ height) (h2 : 0 < k → xs.getD (k - 1) 0 < xs.getD k 0) : zkC height xs (k + 1) := fun j hj => by
 rcases Nat.lt_or_ge j k with h3 | h3
 ·exact h j h3
 ·obtain rfl : j = k := by omega
  exact ⟨h1, h2⟩
theorem zlT {height : Nat} {xs : List Nat} {k : Nat} (h : zkC height xs k) (hk : k ≤ xs.length) : ∀ (j i : Nat), i < j → j < k → xs.getD i 0 < xs.getD j 0
 | 0, i, hi, _ => absurd hi (Nat.not_lt_zero _)
 | j + 1, i, hi, hj => by
  have h1 := (h (j + 1) hj).2 (Nat.succ_pos _)
  rw [Nat.add_sub_cancel] at h1
  rcases Nat.lt_or_ge i j with h2 | h2
  ·exact Nat.lt_trans (zlT h hk j i h2 ow) h1
  ·obtain rfl : i = j := by omega
   exact h1
theorem idxOk.rise {height : Nat} {xs : List Nat} (h : idxOk height xs) : xs.Pairwise (· < ·) :=
 List.pairwise_iff_getElem.2 fun i j hi hj hij => by
  have := zlT h.2.2 (Nat.le_refl _) j i hij hj
  rwa [show xs.getD i 0 = xs[i] by simp [List.getD, hi], show xs.getD j 0 = xs[j] by simp [List.getD, hj]] at this
theorem idxOk.low {height : Nat} {xs : List Nat} (h : idxOk height xs) : ∀ x ∈ xs, x < 2 ^ height := fun x hx => by
 obtain ⟨j, hj, rfl⟩ := List.mem_iff_getElem.1 hx
 have := (h.2.2 j hj).1
 rwa [show xs.getD j 0 = xs[j] by simp [List.getD, hj]] at this
theorem idxOk.root {height : Nat} {xs : List Nat} (h : idxOk height xs) : ∀ x ∈ xs, x / 2 ^ height = 0 := fun x hx => Nat.div_eq_of_lt (h.low x hx)
theorem zdP {height l p : Nat} (h : okAt height (l + 1, p)) : okAt height (l, 2 * p) ∧ okAt height (l, 2 * p + 1) := by
 obtain ⟨h1, h2⟩ := h
 have h1' : l + 1 ≤ height := h1
 have h2' : p < 2 ^ (height - (l + 1)) := h2
 have h3 := zeQ (height := height) (l := l) ow
 refine ⟨⟨by show l ≤ height; omega, ?_⟩, ⟨by show l ≤ height; omega, ?_⟩⟩
 ·show 2 * p < 2 ^ (height - l); omega
 ·show 2 * p + 1 < 2 ^ (height - l); omega
theorem ziq {height : Nat} : ∀ (l : Nat) (xs : List Nat) (p : Nat), okAt height (l, p) → ∀ a ∈ zaj l xs p, okAt height a
 | 0, xs, p, h, a, ha => by
  rw [zaj] at ha
  split at ha
  ·rw [List.mem_singleton.1 ha]; exact h
  ·cases ha
 | l + 1, xs, p, h, a, ha => by
  rw [zaj] at ha
  split at ha
  ·rw [List.mem_singleton.1 ha]; exact h
  ·rcases List.mem_append.1 ha with h1 | h1
   ·exact ziq l _ _ (zdP h).1 a h1
   ·exact ziq l _ _ (zdP h).2 a h1
theorem zcy (l p : Nat) : ∀ xs : List Nat, xs.Pairwise (· < ·) → (∀ x ∈ xs, x / 2 ^ (l + 1) = p) → xs = cutN xs l (2 * p) ++ cutN xs l (2 * p + 1)
 | [], _, _ => rfl
 | x :: xs, hs, hx => by
  obtain ⟨h1, h2⟩ := List.pairwise_cons.1 hs
  have ih := zcy l p xs h2 (fun y hy => hx y (List.mem_cons_of_mem _ hy))
  have hp := hx x (List.mem_cons_self ..)
  rw [← zay] at hp
  by_cases e : x / 2 ^ l = 2 * p
  ·have a : cutN (x :: xs) l (2 * p) = x :: cutN xs l (2 * p) := by simp [cutN, e]
   have b : cutN (x :: xs) l (2 * p + 1) = cutN xs l (2 * p + 1) := by simp [cutN, e]
   rw [a, b, List.cons_append, ← ih]
  ·have e1 : x / 2 ^ l = 2 * p + 1 := by omega
   have hD : ∀ y ∈ x :: xs, y / 2 ^ l = 2 * p + 1 := fun y hy => by
    rcases List.mem_cons.1 hy with rfl | hm
    ·exact e1
    ·have h3 := Nat.div_le_div_right (c := 2 ^ l) (Nat.le_of_lt (h1 y hm))
     have h4 := hx y hy
     rw [← zay] at h4
     generalize y / 2 ^ l = b at h3 h4 ⊢
     omega
   rw [zgy (fun y hm => by rw [hD y hm]; omega), zin hD, List.nil_append]
def zaH : Nat → List Nat → Nat → List H32 → List H32 → H32
 | 0, xs, p, ls, bs => if xs = [] then bs.headD zac else ls.headD zac
 | l + 1, xs, p, ls, bs => if xs = [] then bs.headD zac else
   zbj (l + 1) (zaH l (cutN xs l (2 * p)) (2 * p) (ls.take (cutN xs l (2 * p)).length) (bs.take (zaj l (cutN xs l (2 * p)) (2 * p)).length))
    (zaH l (cutN xs l (2 * p + 1)) (2 * p + 1) (ls.drop (cutN xs l (2 * p)).length) (bs.drop (zaj l (cutN xs l (2 * p)) (2 * p)).length))
def zbo : Nat → List Nat → Nat → List H32 → List H32 → List (List UInt8)
 | 0, xs, p, ls, bs => []
 | l + 1, xs, p, ls, bs => if xs = [] then [] else
   zbo l (cutN xs l (2 * p)) (2 * p) (ls.take (cutN xs l (2 * p)).length) (bs.take (zaj l (cutN xs l (2 * p)) (2 * p)).length) ++
   zbo l (cutN xs l (2 * p + 1)) (2 * p + 1) (ls.drop (cutN xs l (2 * p)).length) (bs.drop (zaj l (cutN xs l (2 * p)) (2 * p)).length) ++
   [zaM (l + 1) (zaH l (cutN xs l (2 * p)) (2 * p) (ls.take (cutN xs l (2 * p)).length) (bs.take (zaj l (cutN xs l (2 * p)) (2 * p)).length))
    (zaH l (cutN xs l (2 * p + 1)) (2 * p + 1) (ls.drop (cutN xs l (2 * p)).length) (bs.drop (zaj l (cutN xs l (2 * p)) (2 * p)).length))]
theorem zbJ (l p : Nat) (ls bs : List H32) : zaH l [] p ls bs = bs.headD zac := by cases l <;> rfl
theorem zfh (l p : Nat) (ls bs : List H32) : zbo l [] p ls bs = [] := by cases l <;> rfl
theorem zdl {xs : List Nat} {p : Nat} {ls bs : List H32} (h : xs ≠ []) : zaH 0 xs p ls bs = ls.headD zac := if_neg h
theorem zcd {xs : List Nat} {l p : Nat} {ls bs : List H32} (h : xs ≠ []) : zaH (l + 1) xs p ls bs =
      zbj (l + 1) (zaH l (cutN xs l (2 * p)) (2 * p) (ls.take (cutN xs l (2 * p)).length) (bs.take (zaj l (cutN xs l (2 * p)) (2 * p)).length))
        (zaH l (cutN xs l (2 * p + 1)) (2 * p + 1) (ls.drop (cutN xs l (2 * p)).length) (bs.drop (zaj l (cutN xs l (2 * p)) (2 * p)).length)) := if_neg h
theorem zbU {xs : List Nat} {l p : Nat} {ls bs : List H32} (h : xs ≠ []) : zbo (l + 1) xs p ls bs =
      zbo l (cutN xs l (2 * p)) (2 * p) (ls.take (cutN xs l (2 * p)).length) (bs.take (zaj l (cutN xs l (2 * p)) (2 * p)).length) ++
      zbo l (cutN xs l (2 * p + 1)) (2 * p + 1) (ls.drop (cutN xs l (2 * p)).length) (bs.drop (zaj l (cutN xs l (2 * p)) (2 * p)).length) ++
      [zaM (l + 1) (zaH l (cutN xs l (2 * p)) (2 * p) (ls.take (cutN xs l (2 * p)).length) (bs.take (zaj l (cutN xs l (2 * p)) (2 * p)).length))
        (zaH l (cutN xs l (2 * p + 1)) (2 * p + 1) (ls.drop (cutN xs l (2 * p)).length) (bs.drop (zaj l (cutN xs l (2 * p)) (2 * p)).length))] := if_neg h
theorem zcz : ∀ (l : Nat) (xs : List Nat) (p : Nat) (ls bs : List H32), (zbo l xs p ls bs).length ≤ xs.length * l
 | 0, xs, p, ls, bs => Nat.zero_le _
 | l + 1, xs, p, ls, bs => by
  rw [zbo]
  split
  ·exact Nat.zero_le _
  ·rename_i h
   have h1 := zcz l (cutN xs l (2 * p)) (2 * p) (ls.take (cutN xs l (2 * p)).length) (bs.take (zaj l (cutN xs l (2 * p)) (2 * p)).length)
   have h2 := zcz l (cutN xs l (2 * p + 1)) (2 * p + 1) (ls.drop (cutN xs l (2 * p)).length) (bs.drop (zaj l (cutN xs l (2 * p)) (2 * p)).length)
   have h3 := zio l p xs
   have h4 : 0 < xs.length := List.length_pos_iff.2 h
   have h5 : (cutN xs l (2 * p)).length * l + (cutN xs l (2 * p + 1)).length * l ≤ xs.length * l := by rw [← Nat.add_mul]; exact Nat.mul_le_mul_right _ h3
   rw [List.length_append, List.length_append, List.length_singleton, Nat.mul_succ]; omega
def ztU (l p : Nat) (a : Nat × Nat) : Prop := a.1 ≤ l ∧ a.2 / 2 ^ (l - a.1) = p
theorem zdm {κ : Type} [DecidableEq κ] (a : κ) : ∀ (s : List κ) (bs : List H32), a ∉ s → look a (s.zip bs) = none
 | [], bs, _ => by simp [zdc]
 | x :: s, [], _ => by simp [zdc]
 | x :: s, b :: bs, h => by
  rw [List.zip_cons_cons, za5, if_neg (fun e => h (by rw [e]; exact List.mem_cons_self ..))]
  exact zdm a s bs (fun hm => h (List.mem_cons_of_mem _ hm))
variable {zs : List ((Nat × Nat) × H32)} {zl : List (Nat × H32)} {l p : Nat} {xs : List Nat} {ls bs : List H32}
end Go.E
namespace Go.E
theorem zbO {xs : List Nat} {k : Nat} (h : k < xs.length) : (u64s xs)[k * 1]? = some (.int .u64 ((xs.getD k 0 : Nat) : Int)) := zlF h (Nat.mul_one k)
theorem zop (xs : List Nat) (k : Nat) : (u64s xs).take k = u64s (xs.take k) := by simp [u64s]
theorem zqI (xs : List Nat) : ∀ u ∈ u64s xs, u.oneCell' = true := fun u hu => by
 obtain ⟨x, _, rfl⟩ := List.mem_map.1 hu; rfl
theorem Ro.take {w : World} {M : List Nat} {A : OAd} {cs : List Value} (h : Ro w M (SlA A cs)) (k : Nat) : Ro w M (SlA A (cs.take k)) :=
 ⟨SlA.take h.1 k, fun b hb => h.2 b (by
  rw [zcC] at hb ⊢
  obtain ⟨a, rfl, rfl, hne⟩ := zbx hb
  exact zgg (fun e => hne (by rw [e]; simp)))⟩
theorem Ro.cut {w : World} {M : List Nat} {A : OAd} {cs : List Value} (h : Ro w M (SlA A cs)) {c l k : Nat} (hc : c = l → cs.length ≤ k) : Ro w M (SlA (if c = l then A else A.map (·.add k)) (cs.drop k)) :=
 ⟨SlA.cut h.1 hc, fun b hb => h.2 b (by
  rw [zcC] at hb ⊢
  obtain ⟨a, ha, rfl, hne⟩ := zbx hb
  have hcs : cs ≠ [] := fun e => hne (by rw [e]; simp)
  split at ha
  ·subst ha; exact zgg hcs
  ·cases A with
   | none => cases ha
   | some a' =>
    injection ha with ha
    subst ha
    rw [zeG]; exact zgg hcs)⟩
theorem Ro.slnil (w : World) (M : List Nat) (A : OAd) : Ro w M (SlA A []) := ⟨fun j u hj => by simp at hj, fun b hb => by rw [zcC] at hb; obtain ⟨x, hx, _, h⟩ := zbx hb; exact absurd rfl h⟩
theorem St.next {W w0 w : World} {M : List Nat} {L0 L : List Assn} (h : St W M L0 w0) (k : St w0 (fps L0) L w) : St W M L w := by
 have := St.frame (R := []) (by rw [List.append_nil]; exact h) k
 rwa [List.append_nil] at this
theorem zjl {w0 w : World} {M : List Nat} {L : List Assn} (h : St w0 M (L ++ []) w) : St w0 M L w := by rwa [List.append_nil] at h
theorem zir (L : List Assn) : List.Perm L (L ++ []) := by rw [List.append_nil]
theorem zhI {x h : Nat} (e : x / 2 ^ h = 0) : x < 2 ^ h := (Nat.div_eq_zero_iff_lt (Nat.two_pow_pos h)).1 e
theorem zqJ {x l p : Nat} (h : x / 2 ^ l = p) : x < (p + 1) * 2 ^ l := by
 rw [← h, Nat.add_mul, Nat.one_mul]
 have := Nat.div_add_mod x (2 ^ l)
 have h2 := Nat.mod_lt x (Nat.two_pow_pos l)
 rw [Nat.mul_comm] at this; omega
theorem zoq {height l p x : Nat} (hh : height ≤ 32) (ho : okAt height (l, p)) (h : x / 2 ^ l = p) : x < 9223372036854775808 := Nat.lt_of_lt_of_le (zqJ h) (zmH hh ho)
def FndC (P : Program) (fn : FuncId) (cp : Array Value) (height : Nat) (J : Sd → List Assn → Prop) (W : World) (M : List Nat) (B : Nat) : Prop :=
 ∀ (a : Nat × Nat) (done : Sd) (L : List Assn) (w : World), okAt height a → done.length < B → J done L → St W M L w →
  Calls P fn ((([.int .i64 (a.1 : Int), .int .u64 (a.2 : Int)] : List Value) ++ cp.toList).toArray) w (Post w (fps L) fun v L' => J (done ++ [a]) L')
def BesC (P : Program) (g : FuncId) (fn : FuncId) (cp : Array Value) (height : Nat) (J : Sd → List Assn → Prop) (W : World) (M : List Nat) (B : Nat) (l : Nat) : Prop :=
 ∀ (p : Nat) (xs : List Nat) (A : OAd) (c : Nat) (done : Sd) (L0 : List Assn) (w0 : World), okAt height (l, p) → xs.Pairwise (· < ·) → (∀ x ∈ xs, x / 2 ^ l = p) → xs.length ≤ c → xs.length ≤ 256 → Sat w0 L0 →
  Ro w0 (fps L0) (SlA A (u64s xs)) → J done L0 → St W M L0 w0 → done.length + (zaj l xs p).length ≤ B →
  Calls P g #[.slice A xs.length c, .int .i64 (l : Int), .int .u64 (p : Int), .func (.func fn) #[] cp] w0 (Post w0 (fps L0) fun v L => J (done ++ zaj l xs p) L)
structure FoundI (xs : List Nat) (q : Nat → Bool) (z : Int) : Prop where
 no : z < 0 → ∀ j, j < xs.length → q (xs.getD j 0) = false
 yes : ¬ z < 0 → ∃ i : Nat, z = (i : Int) ∧ i < xs.length ∧ (∀ j, j < i → q (xs.getD j 0) = false) ∧ q (xs.getD i 0) = true
theorem zlU {p : Nat} : ∀ {xs : List Nat}, xs.Pairwise (· < ·) → (∀ x ∈ xs, x / 2 ^ 0 = p) → xs.length ≤ 1
 | [], _, _ => Nat.zero_le _
 | [_], _, _ => Nat.le_refl _
 | x :: y :: xs, h, ha => by
  have h1 := List.rel_of_pairwise_cons h (List.mem_cons_self (a := y) (l := xs))
  have h2 := ha x (List.mem_cons_self ..)
  have h3 := ha y (List.mem_cons_of_mem _ (List.mem_cons_self ..))
  rw [Nat.pow_zero, Nat.div_one] at h2 h3
  omega
theorem zhJ {ls : List H32} {n : Nat} (h : 0 < n) : (ls.take n).headD zac = ls.getD 0 zac := by
 cases ls with
 | nil => simp
 | cons x l => cases n with
  | zero => exact absurd h (Nat.lt_irrefl _)
  | succ n => simp
abbrev Tx := OAd × Nat × List UInt8
def txL (t : Tx) : List Value := [.slice t.1 t.2.2.length t.2.1]
def zaN (t : Tx) : Assn := OwnA 5 1 t.1 t.2.2.length t.2.1 (zad t.2.2)
theorem zkD (ts : List Tx) : (ts.flatMap txL).length = ts.length := by
 induction ts with
 | nil => rfl
 | cons t ts ih => rw [List.flatMap_cons, List.length_append, ih]; simp [txL]; omega
theorem zor {ts : List Tx} {k : Nat} (h : k < ts.length) : (ts.flatMap txL)[k * 1]? = some (.slice (ts.getD k (none, 0, [])).1 (ts.getD k (none, 0, [])).2.2.length (ts.getD k (none, 0, [])).2.1) := by
 have := zeu (encL := txL) (sz := 1) (fun _ => rfl) ts k _ (getD_some (none, 0, []) h) 0 _ rfl
 simpa using this
def zaZ (T TT : TypeId) (cb : Nat) (A1 : OAd) (lr : List H32) (c1 : Nat) (A2 : OAd) (br : List H32) (c2 : Nat) (O : OAd) (tt : List Tx) (d : Nat) : List Assn :=
 [Blk cb T [.slice A1 lr.length c1, .slice A2 br.length c2, .slice O tt.length d], OwnA TT 1 O tt.length d (tt.flatMap txL), Many (tt.map zaN)]
structure Less (A : OAd) (l : List H32) (n : Nat) (A' : OAd) (c' : Nat) : Prop where
 ro : ∀ w M, Ro w M (SlA A (hcs l)) → Ro w M (SlA A' (hcs (l.drop n)))
 cap : (l.drop n).length ≤ c'
theorem Less.zero {A : OAd} {l : List H32} {c : Nat} (h : l.length ≤ c) : Less A l 0 A c := ⟨fun w M h => h, h⟩
theorem Less.next {A A' A'' : OAd} {l : List H32} {n m c' c'' : Nat} (h : Less A l n A' c') (k : Less A' (l.drop n) m A'' c'') : Less A l (n + m) A'' c'' :=
 ⟨fun w M r => by have := k.ro w M (h.ro w M r); rwa [List.drop_drop] at this, by have := k.cap; rwa [List.drop_drop] at this⟩
theorem Less.one {A : OAd} {l : List H32} {c : Nat} (h : l.length ≤ c) (h0 : 0 < l.length) : Less A l 1 (if c = 1 then A else A.map (·.add (1 * 32))) (c - 1) :=
 ⟨fun w M r => by
  have h2 := r.cut (c := c) (l := 1) (k := 1 * 32) (fun e => by rw [zah]; omega)
  rwa [zeK] at h2, by rw [List.length_drop]; omega⟩
theorem zjm {xs : List Nat} {l p : Nat} {lr br : List H32} (hx : xs ≠ []) (hs : xs.Pairwise (· < ·)) (ha : ∀ x ∈ xs, x / 2 ^ (l + 1) = p) :
  zaH (l + 1) xs p (lr.take xs.length) (br.take (zaj (l + 1) xs p).length) =
   zbj (l + 1) (zaH l (cutN xs l (2 * p)) (2 * p) (lr.take (cutN xs l (2 * p)).length) (br.take (zaj l (cutN xs l (2 * p)) (2 * p)).length))
    (zaH l (cutN xs l (2 * p + 1)) (2 * p + 1) ((lr.drop (cutN xs l (2 * p)).length).take (cutN xs l (2 * p + 1)).length) ((br.drop (zaj l (cutN xs l (2 * p)) (2 * p)).length).take (zaj l (cutN xs l (2 * p + 1)) (2 * p + 1)).length)) ∧
  zbo (l + 1) xs p (lr.take xs.length) (br.take (zaj (l + 1) xs p).length) =
   zbo l (cutN xs l (2 * p)) (2 * p) (lr.take (cutN xs l (2 * p)).length) (br.take (zaj l (cutN xs l (2 * p)) (2 * p)).length) ++
   zbo l (cutN xs l (2 * p + 1)) (2 * p + 1) ((lr.drop (cutN xs l (2 * p)).length).take (cutN xs l (2 * p + 1)).length) ((br.drop (zaj l (cutN xs l (2 * p)) (2 * p)).length).take (zaj l (cutN xs l (2 * p + 1)) (2 * p + 1)).length) ++
   [zaM (l + 1) (zaH l (cutN xs l (2 * p)) (2 * p) (lr.take (cutN xs l (2 * p)).length) (br.take (zaj l (cutN xs l (2 * p)) (2 * p)).length))
    (zaH l (cutN xs l (2 * p + 1)) (2 * p + 1) ((lr.drop (cutN xs l (2 * p)).length).take (cutN xs l (2 * p + 1)).length) ((br.drop (zaj l (cutN xs l (2 * p)) (2 * p)).length).take (zaj l (cutN xs l (2 * p + 1)) (2 * p + 1)).length))] := by
 have hn := congrArg List.length (zcy l p xs hs ha)
 rw [List.length_append] at hn
 have e : ∀ (zs : List H32) (a b : Nat), (zs.take (a + b)).take a = zs.take a := fun zs a b => by rw [List.take_take]; congr 1; omega
 have f : ∀ (zs : List H32) (a b : Nat), (zs.take (a + b)).drop a = (zs.drop a).take b := fun zs a b => by rw [List.drop_take]; congr 1; omega
 have g : (zaj (l + 1) xs p).length = (zaj l (cutN xs l (2 * p)) (2 * p)).length + (zaj l (cutN xs l (2 * p + 1)) (2 * p + 1)).length := by rw [zcc hx, List.length_append]
 rw [zcd hx, zbU hx, g, hn, e, f, e, f]
 exact ⟨rfl, rfl⟩
def zis (height : Nat) (xs : List Nat) (ls bs : List H32) : H32 × Nat :=
 if idxOk height xs then if ls.length ≠ xs.length then (zac, 2) else if bs.length ≠ (zaj height xs 0).length then (zac, 5) else (zaH height xs 0 ls bs, 0) else (zac, 1)
def zbL (z : Int) (xs : List Nat) (ls bs : List H32) : H32 × Nat := if z < 0 ∨ 32 < z then (zac, 1) else zis z.toNat xs ls bs
def zkE (z : Int) (xs : List Nat) (ls bs : List H32) : List (List UInt8) := if (zbL z xs ls bs).2 = 0 then zbo z.toNat xs 0 ls bs else []
def chkR (root : H32) (z : Int) (xs : List Nat) (ls bs : List H32) : Nat := if (zbL z xs ls bs).2 ≠ 0 then (zbL z xs ls bs).2 else if (zbL z xs ls bs).1 ≠ root then 5 else 0
theorem zcH {height : Nat} (hh : height ≤ 32) (xs : List Nat) (ls bs : List H32) : zbL (height : Int) xs ls bs = zis height xs ls bs := by
 rw [zbL, if_neg ow, Int.toNat_natCast]
theorem zkF {height : Nat} {xs : List Nat} {ls bs : List H32} (h : ¬ idxOk height xs) : zis height xs ls bs = (zac, 1) := if_neg h
theorem zkG {height : Nat} {xs : List Nat} {ls bs : List H32} (h : idxOk height xs) (h2 : ls.length ≠ xs.length) : zis height xs ls bs = (zac, 2) := by rw [zis, if_pos h, if_pos h2]
theorem zkH {height : Nat} {xs : List Nat} {ls bs : List H32} (h : idxOk height xs) (h2 : ls.length = xs.length) (h3 : bs.length ≠ (zaj height xs 0).length) : zis height xs ls bs = (zac, 5) := by rw [zis, if_pos h, if_neg (fun k => k h2), if_pos h3]
theorem zit {height : Nat} {xs : List Nat} {ls bs : List H32} (h : idxOk height xs) (h2 : ls.length = xs.length) (h3 : bs.length = (zaj height xs 0).length) : zis height xs ls bs = (zaH height xs 0 ls bs, 0) := by rw [zis, if_pos h, if_neg (fun k => k h2), if_neg (fun k => k h3)]
variable {C : Ctx} {Q : EQ} {env : Env} {ops : Array Oper}
theorem TL.manyJoin {A : Assn} {L R L0 : List Assn} {l : List Oper} (s : L0.Perm (A :: Many L :: R)) (h : TL C ops Q l env (Many (L ++ [A]) :: R)) : TL C ops Q l env L0 := fun a w ha hw => h a w ha ((hw.perm s).many_join)
end Go.E
