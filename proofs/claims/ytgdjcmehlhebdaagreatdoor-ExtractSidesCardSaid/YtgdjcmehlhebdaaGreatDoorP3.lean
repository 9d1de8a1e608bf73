/-
  A sorted list without its doubles, as slices.Compact makes it. Rising lists are known by their members; the sorted list without doubles; one more number in its place. The leaves of a tree in their order; the document's list of leaves. Plain words: a tree for another number of blocks, and the steps that lead to its root.
-/
import Derived.Test.YtgdjcmehlhebdaaGreatDoorSO
import Derived.Test.YtgdjcmehlhebdaaGreatDoorP1
import Derived.Test.YtgdjcmehlhebdaaGreatDoorP2
namespace Go.E
set_option linter.unusedVariables false
def isN (xs : List Nat) (i : Nat) : Bool := decide (i = 0 ∨ xs.getD i 0 ≠ xs.getD (i - 1) 0)
/-- The numbers whose forerunner is another one. -/
def ddF (xs : List Nat) (m : Nat) : List Nat := ((List.range m).filter (isN xs)).map fun i => xs.getD i 0
def dd (xs : List Nat) : List Nat := ddF xs xs.length
theorem ddF_zero (xs : List Nat) : ddF xs 0 = [] := rfl
theorem ddF_new {xs : List Nat} {m : Nat} (h : m = 0 ∨ xs.getD m 0 ≠ xs.getD (m - 1) 0) : ddF xs (m + 1) = ddF xs m ++ [xs.getD m 0] := by
  rw [ddF, List.range_succ, List.filter_append, List.map_append]
  rw [List.filter_cons_of_pos (show isN xs m = true from decide_eq_true h)]
  rfl
theorem ddF_old {xs : List Nat} {m : Nat} (h0 : m ≠ 0) (h : xs.getD m 0 = xs.getD (m - 1) 0) : ddF xs (m + 1) = ddF xs m := by
  rw [ddF, List.range_succ, List.filter_append, List.map_append]
  rw [List.filter_cons_of_neg (show ¬ isN xs m = true from fun k => (of_decide_eq_true k).elim h0 (fun q => q h))]
  simp [ddF]
end Go.E
namespace Go.E
set_option linter.unusedVariables false
theorem strict_ext : ∀ {a b : List Nat}, a.Pairwise (· < ·) → b.Pairwise (· < ·) → (∀ x, x ∈ a ↔ x ∈ b) → a = b
  | [], [], _, _, _ => rfl
  | [], y :: b, _, _, h => absurd ((h y).2 (List.mem_cons_self ..)) (by simp)
  | x :: a, [], _, _, h => absurd ((h x).1 (List.mem_cons_self ..)) (by simp)
  | x :: a, y :: b, ha, hb, h => by
    obtain ⟨ha1, ha2⟩ := List.pairwise_cons.1 ha
    obtain ⟨hb1, hb2⟩ := List.pairwise_cons.1 hb
    have hxy : x = y := by
      rcases List.mem_cons.1 ((h x).1 (List.mem_cons_self ..)) with e | e
      · exact e
      · rcases List.mem_cons.1 ((h y).2 (List.mem_cons_self ..)) with e2 | e2
        · exact e2.symm
        · have := ha1 y e2
          have := hb1 x e
          omega
    subst hxy
    rw [strict_ext ha2 hb2 fun z => ?_]
    constructor
    · intro hz
      rcases List.mem_cons.1 ((h z).1 (List.mem_cons_of_mem _ hz)) with rfl | e
      · exact absurd (ha1 z hz) (Nat.lt_irrefl _)
      · exact e
    · intro hz
      rcases List.mem_cons.1 ((h z).2 (List.mem_cons_of_mem _ hz)) with rfl | e
      · exact absurd (hb1 z hz) (Nat.lt_irrefl _)
      · exact e
theorem take_oneN {xs : List Nat} {k : Nat} (h : k < xs.length) : xs.take (k + 1) = xs.take k ++ [xs.getD k 0] := by
  rw [List.take_succ_eq_append_getElem h]; simp [List.getD, h]
theorem take_get {xs : List Nat} {k x : Nat} (hk : k ≤ xs.length) (h : x ∈ xs.take k) : ∃ j, j < k ∧ xs.getD j 0 = x := by
  obtain ⟨j, hj, rfl⟩ := List.mem_take_iff_getElem.1 h
  exact ⟨j, by omega, by simp [List.getD, show j < xs.length by omega]⟩
theorem le_at {ys : List Nat} (hs : ys.Pairwise (· ≤ ·)) {i j : Nat} (hij : i ≤ j) (hj : j < ys.length) : ys.getD i 0 ≤ ys.getD j 0 := by
  rcases Nat.eq_or_lt_of_le hij with rfl | h
  · exact Nat.le_refl _
  · have := List.pairwise_iff_getElem.1 hs i j (by omega) hj h
    rwa [show ys.getD i 0 = ys[i] by simp [List.getD, show i < ys.length by omega], show ys.getD j 0 = ys[j] by simp [List.getD, hj]]
theorem lt_at {ys : List Nat} (hs : ys.Pairwise (· < ·)) {i j : Nat} (hij : i < j) (hj : j < ys.length) : ys.getD i 0 < ys.getD j 0 := by
  have := List.pairwise_iff_getElem.1 hs i j (by omega) hj hij
  rwa [show ys.getD i 0 = ys[i] by simp [List.getD, show i < ys.length by omega], show ys.getD j 0 = ys[j] by simp [List.getD, hj]]
theorem ddF_ok {ys : List Nat} (hs : ys.Pairwise (· ≤ ·)) : ∀ m, m ≤ ys.length → (ddF ys m).Pairwise (· < ·) ∧ ∀ x, x ∈ ddF ys m ↔ x ∈ ys.take m
  | 0, _ => ⟨List.Pairwise.nil, fun x => by simp [ddF_zero]⟩
  | m + 1, hm => by
    obtain ⟨h1, h2⟩ := ddF_ok hs m (by omega)
    by_cases h0 : m = 0 ∨ ys.getD m 0 ≠ ys.getD (m - 1) 0
    · rw [ddF_new h0]
      refine ⟨List.pairwise_append.2 ⟨h1, List.pairwise_singleton _ _, fun a ha b hb => ?_⟩, fun x => ?_⟩
      · rw [List.mem_singleton.1 hb]
        obtain ⟨j, hj, rfl⟩ := take_get (by omega) ((h2 a).1 ha)
        have a1 := le_at hs (show j ≤ m - 1 by omega) (by omega)
        have a2 := le_at hs (show m - 1 ≤ m by omega) (by omega)
        have a3 : ys.getD m 0 ≠ ys.getD (m - 1) 0 := h0.elim (fun e => by omega) id
        omega
      · rw [take_oneN (by omega), List.mem_append, List.mem_append, h2 x]
    · have h3 : m ≠ 0 := fun e => h0 (.inl e)
      have h4 : ys.getD m 0 = ys.getD (m - 1) 0 := Decidable.not_not.1 fun e => h0 (.inr e)
      rw [ddF_old h3 h4]
      refine ⟨h1, fun x => ?_⟩
      rw [h2 x, take_oneN (by omega), List.mem_append]
      refine ⟨.inl, fun h => h.elim id fun e => ?_⟩
      rw [List.mem_singleton.1 e, h4]
      have : ys.take m = ys.take (m - 1) ++ [ys.getD (m - 1) 0] := by
        have := take_oneN (xs := ys) (k := m - 1) (by omega)
        rwa [show m - 1 + 1 = m by omega] at this
      rw [this]
      exact List.mem_append.2 (.inr (List.mem_singleton.2 rfl))
theorem srt_le (xs : List Nat) : (srt xs).Pairwise (· ≤ ·) := by
  have h := List.pairwise_mergeSort (le := fun x y => !ltN y x) (fun a b c => by simp only [ltN, Bool.not_eq_true', decide_eq_false_iff_not]; omega) (fun a b => by simp only [ltN, Bool.or_eq_true, Bool.not_eq_true', decide_eq_false_iff_not]; omega) xs
  exact h.imp fun {a b} h => by simp only [ltN, Bool.not_eq_true', decide_eq_false_iff_not] at h; omega
theorem srt_perm (xs : List Nat) : (srt xs).Perm xs := List.mergeSort_perm xs _
theorem srt_mem {xs : List Nat} {x : Nat} : x ∈ srt xs ↔ x ∈ xs := (srt_perm xs).mem_iff
theorem dd_rise (xs : List Nat) : (dd (srt xs)).Pairwise (· < ·) := (ddF_ok (srt_le xs) _ (Nat.le_refl _)).1
theorem dd_mem {xs : List Nat} {x : Nat} : x ∈ dd (srt xs) ↔ x ∈ xs := by
  rw [dd, (ddF_ok (srt_le xs) _ (Nat.le_refl _)).2 x, List.take_length, srt_mem]
theorem dd_uniq {xs os : List Nat} (h1 : os.Pairwise (· < ·)) (h2 : ∀ x, x ∈ os ↔ x ∈ xs) : os = dd (srt xs) :=
  strict_ext h1 (dd_rise xs) fun x => by rw [h2 x, dd_mem]
theorem nodup_len : ∀ {a b : List Nat}, a.Nodup → (∀ x ∈ a, x ∈ b) → a.length ≤ b.length
  | [], b, _, _ => Nat.zero_le _
  | x :: a, b, h, hs => by
    obtain ⟨h1, h2⟩ := List.nodup_cons.1 h
    have hx := hs x (List.mem_cons_self ..)
    have := nodup_len (b := b.erase x) h2 fun y hy => (List.mem_erase_of_ne (fun e => h1 (by rw [← e]; exact hy))).2 (hs y (List.mem_cons_of_mem _ hy))
    rw [List.length_erase_of_mem hx] at this
    have := List.length_pos_of_mem hx
    rw [List.length_cons]; omega
/-- A number put where it belongs. -/
structure SetN (os : List Nat) (xs : List Nat) (k : Nat) : Prop where
  rise : os.Pairwise (· < ·)
  mem : ∀ x, x ∈ os ↔ x ∈ xs.take k
theorem SetN.zero (xs : List Nat) : SetN [] xs 0 := ⟨List.Pairwise.nil, fun x => by simp⟩
theorem SetN.len {os xs : List Nat} {k : Nat} (h : SetN os xs k) (hk : k ≤ xs.length) : os.length ≤ k := by
  have h1 : os.Nodup := h.rise.imp fun {a b} h => Nat.ne_of_lt h
  have := nodup_len h1 fun x hx => (h.mem x).1 hx
  rw [List.length_take] at this; omega
theorem SetN.new {os xs : List Nat} {k a : Nat} (h : SetN os xs k) (hk : k < xs.length) (ha : a ≤ os.length) (h1 : ∀ j, j < a → os.getD j 0 < xs.getD k 0) (h2 : a < os.length → xs.getD k 0 < os.getD a 0) :
    SetN (os.take a ++ [xs.getD k 0] ++ os.drop a) xs (k + 1) where
  rise := by
    have hT : ∀ y ∈ os.take a, y < xs.getD k 0 := fun y hy => by
      obtain ⟨j, hj, rfl⟩ := take_get ha hy
      exact h1 j hj
    have hD : ∀ y ∈ os.drop a, xs.getD k 0 < y := fun y hy => by
      obtain ⟨i, hi, rfl⟩ := List.mem_drop_iff_getElem.1 hy
      have h3 := h2 (by omega)
      rcases Nat.eq_zero_or_pos i with rfl | hp
      · rwa [show os.getD a 0 = os[a] by simp [List.getD, show a < os.length by omega]] at h3
      · have h4 := lt_at h.rise (show a < a + i by omega) (by omega)
        rw [show os.getD (a + i) 0 = os[a + i] by simp [List.getD, show a + i < os.length by omega]] at h4
        omega
    refine List.pairwise_append.2 ⟨List.pairwise_append.2 ⟨h.rise.sublist (List.take_sublist _ _), List.pairwise_singleton _ _, fun y hy z hz => ?_⟩, h.rise.sublist (List.drop_sublist _ _), fun y hy z hz => ?_⟩
    · rw [List.mem_singleton.1 hz]; exact hT y hy
    · rcases List.mem_append.1 hy with hy | hy
      · exact Nat.lt_trans (hT y hy) (hD z hz)
      · rw [List.mem_singleton.1 hy]; exact hD z hz
  mem x := by
    have e : x ∈ os ↔ x ∈ os.take a ∨ x ∈ os.drop a := by rw [← List.mem_append, List.take_append_drop]
    rw [take_oneN hk, List.mem_append, List.mem_append, List.mem_append, ← h.mem x, e]
    constructor
    · rintro ((h | h) | h)
      · exact .inl (.inl h)
      · exact .inr h
      · exact .inl (.inr h)
    · rintro ((h | h) | h)
      · exact .inl (.inl h)
      · exact .inr h
      · exact .inl (.inr h)
theorem SetN.done {os xs : List Nat} (h : SetN os xs xs.length) : os = dd (srt xs) := dd_uniq h.rise fun x => by rw [h.mem x, List.take_length]
end Go.E
namespace Go.E
set_option linter.unusedVariables false
/-- The leaves' indices, rising. -/
def lv0 (ks : List (Nat × Nat)) : List Nat := (ks.filter fun a => a.1 == 0).map (·.2)
theorem lv0_mem {ks : List (Nat × Nat)} {p : Nat} : p ∈ lv0 ks ↔ (0, p) ∈ ks := by
  unfold lv0
  rw [List.mem_map]
  constructor
  · rintro ⟨⟨l, q⟩, h, rfl⟩
    obtain ⟨h1, h2⟩ := List.mem_filter.1 h
    obtain rfl : l = 0 := by simpa using h2
    exact h1
  · exact fun h => ⟨(0, p), List.mem_filter.2 ⟨h, rfl⟩, rfl⟩
theorem lv0_nodup {ks : List (Nat × Nat)} (h : ks.Nodup) : (lv0 ks).Nodup := by
  unfold lv0
  refine List.pairwise_map.2 (List.Pairwise.imp_of_mem (fun {a b} ha hb hne => ?_) (List.Pairwise.filter (fun a : Nat × Nat => a.1 == 0) h))
  have a1 := (List.mem_filter.1 ha).2
  have a2 := (List.mem_filter.1 hb).2
  have b1 : a.1 = 0 := by simpa using a1
  have b2 : b.1 = 0 := by simpa using a2
  exact fun e => hne (Prod.ext (by rw [b1, b2]) e)
def lvT (ms : Tm) : List Nat := srt (lv0 (keysOf ms))
theorem lvT_mem {ms : Tm} {p : Nat} : p ∈ lvT ms ↔ ∃ h, look (0, p) ms = some h := by
  rw [lvT, srt_mem, lv0_mem]
  cases e : look (0, p) ms with
  | none => exact ⟨fun h => absurd h (look_none.1 e), fun ⟨h, k⟩ => by cases k⟩
  | some v => exact ⟨fun _ => ⟨v, rfl⟩, fun _ => Decidable.not_not.1 fun k => by rw [look_none.2 k] at e; cases e⟩
theorem lvT_rise {ms : Tm} (hn : (keysOf ms).Nodup) : (lvT ms).Pairwise (· < ·) := by
  have h1 : (lvT ms).Nodup := (srt_perm _).nodup_iff.2 (lv0_nodup hn)
  exact (srt_le _).imp₂ (fun a b h1 h2 => Nat.lt_of_le_of_ne h1 h2) h1
theorem TreeOk.lv {E : Nat → H32} {height : Nat} {f : Nat → H32} {ms : Tm} (ht : TreeOk E height f ms) {p : Nat} : p ∈ lvT ms ↔ p < 2 ^ height ∧ f p ≠ E 0 := by
  rw [lvT_mem]
  constructor
  · rintro ⟨h, e⟩
    obtain ⟨h1, h2⟩ := ht.keys _ _ e
    have h3 : p < 2 ^ height := by have := h1.2; simpa using this
    refine ⟨h3, ?_⟩
    have := ht.get (0, p) (ok0 h3)
    rw [valOr_look E ms _ e] at this
    have h4 : h = f p := this
    rw [← h4]; exact h2
  · rintro ⟨h1, h2⟩
    cases e : look (0, p) ms with
    | some v => exact ⟨v, rfl⟩
    | none =>
      have := ht.get (0, p) (ok0 h1)
      rw [valOr_none E ms _ e] at this
      exact absurd this.symm h2
/-- The document's list, in order, with no empty leaf. -/
structure LsOk (E : Nat → H32) (height : Nat) (ls : Ls) : Prop where
  rise : ls.Pairwise (fun a b => a.1 < b.1)
  ne : ∀ x ∈ ls, x.2 ≠ E 0
  low : ∀ x ∈ ls, x.1 < 2 ^ height
theorem LsOk.nil (E : Nat → H32) (height : Nat) : LsOk E height [] := ⟨List.Pairwise.nil, (fun x hx => by cases hx), (fun x hx => by cases hx)⟩
theorem look_mem {ls : Ls} (hs : ls.Pairwise (fun a b => a.1 < b.1)) {x : Nat × H32} (hx : x ∈ ls) : look x.1 ls = some x.2 := by
  induction ls with
  | nil => cases hx
  | cons y ls ih =>
    obtain ⟨h1, h2⟩ := List.pairwise_cons.1 hs
    rw [look_cons]
    rcases List.mem_cons.1 hx with rfl | hx
    · rw [if_pos rfl]
    · have := h1 x hx
      rw [if_neg (by omega)]; exact ih h2 hx
theorem fL_mem {E : Nat → H32} {ls : Ls} (hs : ls.Pairwise (fun a b => a.1 < b.1)) {x : Nat × H32} (hx : x ∈ ls) : fL E ls x.1 = x.2 := by rw [fL, look_mem hs hx]; rfl
theorem fL_not {E : Nat → H32} {ls : Ls} {p : Nat} (h : p ∉ ls.map (·.1)) : fL E ls p = E 0 := by rw [fL, look_none.2 h]; rfl
theorem TreeOk.leaves {E : Nat → H32} {height : Nat} {ls : Ls} {ms : Tm} (ht : TreeOk E height (fL E ls) ms) (ho : LsOk E height ls) : lvT ms = ls.map (·.1) := by
  refine strict_ext (lvT_rise ht.nodup) (List.pairwise_map.2 ho.rise) fun p => ?_
  rw [ht.lv]
  constructor
  · rintro ⟨h1, h2⟩
    exact Decidable.not_not.1 fun h => h2 (fL_not h)
  · intro h
    obtain ⟨x, hx, rfl⟩ := List.mem_map.1 h
    refine ⟨ho.low x hx, ?_⟩
    rw [fL_mem ho.rise hx]; exact ho.ne x hx
/-- A leaf set, in the document's list. -/
def loL (i : Nat) (ls : Ls) : Ls := ls.filter fun x => x.1 < i
def hiL (i : Nat) (ls : Ls) : Ls := ls.filter fun x => i < x.1
def setL (E : Nat → H32) (ls : Ls) (i : Nat) (h : H32) : Ls := loL i ls ++ (if h = E 0 then [] else [(i, h)]) ++ hiL i ls
theorem LsOk.set {E : Nat → H32} {height : Nat} {ls : Ls} (ho : LsOk E height ls) {i : Nat} (hi : i < 2 ^ height) (h : H32) : LsOk E height (setL E ls i h) := by
  have hl : ∀ x ∈ loL i ls, x ∈ ls ∧ x.1 < i := fun x hx => by have := List.mem_filter.1 hx; exact ⟨this.1, by simpa using this.2⟩
  have hh : ∀ x ∈ hiL i ls, x ∈ ls ∧ i < x.1 := fun x hx => by have := List.mem_filter.1 hx; exact ⟨this.1, by simpa using this.2⟩
  have hm : ∀ x ∈ (if h = E 0 then [] else [(i, h)] : Ls), x = (i, h) ∧ h ≠ E 0 := fun x hx => by
    by_cases e : h = E 0
    · rw [if_pos e] at hx; cases hx
    · rw [if_neg e] at hx; exact ⟨List.mem_singleton.1 hx, e⟩
  refine ⟨List.pairwise_append.2 ⟨List.pairwise_append.2 ⟨ho.rise.sublist List.filter_sublist, ?_, fun x hx y hy => ?_⟩, ho.rise.sublist List.filter_sublist, fun x hx y hy => ?_⟩, fun x hx => ?_, fun x hx => ?_⟩
  · split
    · exact List.Pairwise.nil
    · exact List.pairwise_singleton _ _
  · rw [(hm y hy).1]; exact (hl x hx).2
  · have h2 := (hh y hy).2
    rcases List.mem_append.1 hx with hx | hx
    · exact Nat.lt_trans (hl x hx).2 h2
    · rw [(hm x hx).1]; exact h2
  · rcases List.mem_append.1 hx with hx | hx
    · rcases List.mem_append.1 hx with hx | hx
      · exact ho.ne x (hl x hx).1
      · rw [(hm x hx).1]; exact (hm x hx).2
    · exact ho.ne x (hh x hx).1
  · rcases List.mem_append.1 hx with hx | hx
    · rcases List.mem_append.1 hx with hx | hx
      · exact ho.low x (hl x hx).1
      · rw [(hm x hx).1]; exact hi
    · exact ho.low x (hh x hx).1
/-- What stands in the new list, put exactly. -/
structure PutS (i : Nat) (h : H32) (d0 : Bool) (ls : Ls) (k : Nat) (done : Bool) (out : Ls) : Prop where
  out : out = loL i (ls.take k) ++ (if done = true ∧ d0 = false then [(i, h)] else []) ++ hiL i (ls.take k)
  lowF : done = false → ∀ x ∈ ls.take k, x.1 < i
  hiT : done = true → d0 = false → ∀ j, k ≤ j → j < ls.length → i ≤ (ls.getD j leaf0).1
theorem hiL_none {i : Nat} {ls : Ls} (h : ∀ x ∈ ls, x.1 ≤ i) : hiL i ls = [] := List.filter_eq_nil_iff.2 fun x hx => by have := h x hx; simpa using this
theorem PutS.zero (i : Nat) (h : H32) (d0 : Bool) (ls : Ls) : PutS i h d0 ls 0 d0 [] :=
  ⟨by cases d0 <;> rfl, fun _ x hx => by simp at hx, fun a b => by rw [a] at b; cases b⟩
theorem PutS.keep {i : Nat} {h : H32} {d0 d : Bool} {ls : Ls} {k : Nat} {out : Ls} (p : PutS i h d0 ls k d out) (hm : d0 = true → d = true) (hs : ls.Pairwise (fun a b => a.1 < b.1)) (hk : k < ls.length) (hne : (ls.getD k leaf0).1 ≠ i) (hx : d = false → (ls.getD k leaf0).1 < i) : PutS i h d0 ls (k + 1) d (out ++ [ls.getD k leaf0]) := by
  have hprev : ∀ x ∈ ls.take k, x.1 < (ls.getD k leaf0).1 := fun x hx => by
    obtain ⟨j, hj, rfl⟩ := List.mem_take_iff_getElem.1 hx
    have := List.pairwise_iff_getElem.1 hs j k (by omega) hk (by omega)
    rwa [show ls.getD k leaf0 = ls[k] by simp [List.getD, hk]]
  have hcase : (ls.getD k leaf0).1 < i ∨ i < (ls.getD k leaf0).1 := by omega
  refine ⟨?_, fun e x hm => ?_, fun a b j hj hjl => p.hiT a b j (by omega) hjl⟩
  · rw [take_one hk]
    rcases hcase with hc | hc
    · have e1 : hiL i (ls.take k) = [] := hiL_none fun x hx => Nat.le_of_lt (Nat.lt_trans (hprev x hx) hc)
      have e2 : hiL i (ls.take k ++ [ls.getD k leaf0]) = [] := hiL_none fun x hx => by
        rcases List.mem_append.1 hx with hx | hx
        · exact Nat.le_of_lt (Nat.lt_trans (hprev x hx) hc)
        · rw [List.mem_singleton.1 hx]; exact Nat.le_of_lt hc
      have e3 : loL i (ls.take k ++ [ls.getD k leaf0]) = loL i (ls.take k) ++ [ls.getD k leaf0] := by
        unfold loL; rw [List.filter_append]; simp only [List.filter_cons_of_pos (p := fun x : Nat × H32 => decide (x.1 < i)) (decide_eq_true hc), List.filter_nil]
      have e4 : (if d = true ∧ d0 = false then [(i, h)] else [] : Ls) = [] := if_neg fun ⟨a, b⟩ => by have := p.hiT a b k (Nat.le_refl _) hk; omega
      rw [p.out, e1, e2, e3, e4]; simp
    · have e2 : hiL i (ls.take k ++ [ls.getD k leaf0]) = hiL i (ls.take k) ++ [ls.getD k leaf0] := by
        unfold hiL; rw [List.filter_append]; simp only [List.filter_cons_of_pos (p := fun x : Nat × H32 => decide (i < x.1)) (decide_eq_true hc), List.filter_nil]
      have e3 : loL i (ls.take k ++ [ls.getD k leaf0]) = loL i (ls.take k) := by
        unfold loL; rw [List.filter_append, List.filter_cons_of_neg (by simp only [decide_eq_true_eq]; omega)]; simp
      rw [p.out, e2, e3]; simp
  · rw [take_one hk] at hm
    rcases List.mem_append.1 hm with hm | hm
    · exact p.lowF e x hm
    · rw [List.mem_singleton.1 hm]; exact hx e
theorem PutS.drop {i : Nat} {h : H32} {d0 d : Bool} {ls : Ls} {k : Nat} {out : Ls} (p : PutS i h d0 ls k d out) (hk : k < ls.length) (he : (ls.getD k leaf0).1 = i) (hx : d = false → (ls.getD k leaf0).1 < i) : PutS i h d0 ls (k + 1) d out := by
  have hd : d = true := by cases d; exact absurd (hx rfl) (by omega); rfl
  subst hd
  refine ⟨?_, (fun e => by cases e), fun a b j hj hjl => p.hiT a b j (by omega) hjl⟩
  have e2 : hiL i (ls.take (k + 1)) = hiL i (ls.take k) := by
    rw [take_one hk]; unfold hiL; rw [List.filter_append, List.filter_cons_of_neg (by simp only [decide_eq_true_eq]; omega)]; simp
  have e3 : loL i (ls.take (k + 1)) = loL i (ls.take k) := by
    rw [take_one hk]; unfold loL; rw [List.filter_append, List.filter_cons_of_neg (by simp only [decide_eq_true_eq]; omega)]; simp
  rw [p.out, e2, e3]
theorem PutS.end {E : Nat → H32} {i : Nat} {h : H32} {d0 : Bool} {ls : Ls} {k : Nat} {out : Ls} (p : PutS i h d0 ls k true out) (hd : d0 = decide (h = E 0)) (hk : ls.length ≤ k) : out = setL E ls i h := by
  rw [p.out, take_all ls hk, setL]
  subst hd
  by_cases e : h = E 0 <;> simp [e]
end Go.E
namespace Go.E
set_option linter.unusedVariables false
end Go.E
