/-
  Plain words: a tree's own span comes to its root; how many hashes it has.
-/
import Derived.Test.YtlneklemjfefpaaDoorSN
import Derived.Test.YtlneklemjfefpaaDoorP1
namespace Go.E
set_option linter.unusedVariables false
/-- The numbers from f on, so many. -/
def idxF (f n : Nat) : List Nat := (List.range n).map (f + ·)
theorem idxF_len (f n : Nat) : (idxF f n).length = n := by simp [idxF]
theorem idxF_get {f n j : Nat} (h : j < n) : (idxF f n).getD j 0 = f + j := by simp [idxF, List.getD, h]
theorem idxF_mem {f n x : Nat} : x ∈ idxF f n ↔ f ≤ x ∧ x < f + n := by
  unfold idxF
  rw [List.mem_map]
  constructor
  · rintro ⟨i, hi, rfl⟩
    have := List.mem_range.1 hi; omega
  · rintro ⟨h1, h2⟩
    exact ⟨x - f, List.mem_range.2 (by omega), by omega⟩
theorem idxF_ok {f n h : Nat} (h1 : 1 ≤ n) (h2 : n ≤ 256) (hf : f + n ≤ 2 ^ h) : idxOk h (idxF f n) := by
  refine ⟨by rw [idxF_len]; exact h1, by rw [idxF_len]; exact h2, fun j hj => ?_⟩
  rw [idxF_len] at hj
  rw [idxF_get hj]
  refine ⟨by omega, fun h0 => ?_⟩
  rw [idxF_get (by omega)]; omega
/-- Sums over a row. -/
def sumV (g : Nat → Nat) (a b : Nat) : Nat := ((List.range (b + 1 - a)).map fun i => g (a + i)).sum
theorem sumV_snoc (g : Nat → Nat) {a b : Nat} (h : a ≤ b + 1) : sumV g a (b + 1) = sumV g a b + g (b + 1) := by
  unfold sumV
  rw [show b + 1 + 1 - a = (b + 1 - a) + 1 by omega, List.range_succ, List.map_append, List.sum_append]
  simp [show a + (b + 1 - a) = b + 1 by omega]
theorem sumV_one (g : Nat → Nat) (a : Nat) : sumV g a a = g a := by simp [sumV, show a + 1 - a = 1 by omega]
theorem sumV_cons (g : Nat → Nat) {a : Nat} (h0 : 0 < a) : ∀ d, sumV g (a - 1) (a + d) = g (a - 1) + sumV g a (a + d)
  | 0 => by
    have := sumV_snoc g (a := a - 1) (b := a - 1) (by omega)
    rw [show a - 1 + 1 = a by omega, sumV_one] at this
    rw [Nat.add_zero, this, sumV_one]
  | d + 1 => by
    have h1 := sumV_snoc g (a := a - 1) (b := a + d) (by omega)
    have h2 := sumV_snoc g (a := a) (b := a + d) (by omega)
    rw [← Nat.add_assoc, h1, h2, sumV_cons g h0 d, Nat.add_assoc]
theorem sumV_pairs (g : Nat → Nat) (a : Nat) : ∀ d, sumV (fun q => g (2 * q) + g (2 * q + 1)) a (a + d) = sumV g (2 * a) (2 * (a + d) + 1)
  | 0 => by
    have h1 := sumV_snoc g (a := 2 * a) (b := 2 * a) (by omega)
    rw [Nat.add_zero, sumV_one, h1, sumV_one]
  | d + 1 => by
    have h1 := sumV_snoc (fun q => g (2 * q) + g (2 * q + 1)) (a := a) (b := a + d) (by omega)
    have h2 := sumV_snoc g (a := 2 * a) (b := 2 * (a + d) + 1) (by omega)
    have h3 := sumV_snoc g (a := 2 * a) (b := 2 * (a + d) + 1 + 1) (by omega)
    rw [← Nat.add_assoc, h1, sumV_pairs g a d, show 2 * (a + d + 1) + 1 = 2 * (a + d) + 1 + 1 + 1 by omega, h3, h2, show 2 * (a + d + 1) = 2 * (a + d) + 1 + 1 by omega]
    omega
/-- How many nodes stand beside a run of indices, below a node. -/
def cntN (f n l p : Nat) : Nat := (spots l (cutN (idxF f n) l p) p).length
theorem cut_idxF {f n l p : Nat} (h1 : 1 ≤ n) : cutN (idxF f n) l p = [] ↔ ¬ (f / 2 ^ l ≤ p ∧ p ≤ (f + n - 1) / 2 ^ l) := by
  constructor
  · rintro e ⟨h2, h3⟩
    have hp := Nat.two_pow_pos l
    have hm : max f (p * 2 ^ l) ∈ cutN (idxF f n) l p := by
      refine List.mem_filter.2 ⟨idxF_mem.2 ⟨Nat.le_max_left .., ?_⟩, ?_⟩
      · have h4 : p * 2 ^ l ≤ f + n - 1 := (Nat.le_div_iff_mul_le hp).1 h3
        rcases Nat.le_total f (p * 2 ^ l) with h | h
        · rw [Nat.max_eq_right h]; omega
        · rw [Nat.max_eq_left h]; omega
      · rcases Nat.le_total f (p * 2 ^ l) with h | h
        · rw [Nat.max_eq_right h]; simp [Nat.mul_div_cancel _ hp]
        · rw [Nat.max_eq_left h]
          have h5 : p ≤ f / 2 ^ l := (Nat.le_div_iff_mul_le hp).2 h
          have : f / 2 ^ l = p := by omega
          simp [this]
    rw [e] at hm; cases hm
  · intro h
    refine cutN_none fun x hx e => h ?_
    obtain ⟨h2, h3⟩ := idxF_mem.1 hx
    have h4 := Nat.div_le_div_right (c := 2 ^ l) h2
    have h5 := Nat.div_le_div_right (c := 2 ^ l) (show x ≤ f + n - 1 by omega)
    omega
theorem cnt_out {f n l p : Nat} (h1 : 1 ≤ n) (h : ¬ (f / 2 ^ l ≤ p ∧ p ≤ (f + n - 1) / 2 ^ l)) : cntN f n l p = 1 := by rw [cntN, (cut_idxF h1).2 h, spots_nil]; rfl
theorem cnt_leaf {f n p : Nat} (h1 : 1 ≤ n) (h : f / 2 ^ 0 ≤ p ∧ p ≤ (f + n - 1) / 2 ^ 0) : cntN f n 0 p = 0 := by rw [cntN, spots_zero (fun e => (cut_idxF h1).1 e h)]; rfl
theorem cnt_kids {f n l p : Nat} (h1 : 1 ≤ n) (h : f / 2 ^ (l + 1) ≤ p ∧ p ≤ (f + n - 1) / 2 ^ (l + 1)) : cntN f n (l + 1) p = cntN f n l (2 * p) + cntN f n l (2 * p + 1) := by
  rw [cntN, spots_succ (fun e => (cut_idxF h1).1 e h), List.length_append, cutN_cut _ _ _ _ (by omega), cutN_cut _ _ _ _ (by omega)]; rfl
theorem sumV_congr {g g' : Nat → Nat} {a b : Nat} (h : ∀ p, a ≤ p → p ≤ b → g p = g' p) : sumV g a b = sumV g' a b := by
  unfold sumV
  congr 1
  refine List.map_congr_left fun i hi => h _ (Nat.le_add_right _ _) ?_
  have := List.mem_range.1 hi; omega
theorem zero_sum : ∀ l : List Nat, (l.map fun _ => 0).sum = 0
  | [] => rfl
  | _ :: l => by simp [zero_sum l]
theorem cnt_sum {f n : Nat} (h1 : 1 ≤ n) : ∀ l, sumV (cntN f n l) (f / 2 ^ l) ((f + n - 1) / 2 ^ l) = (sideL f l).length + (sideR (f + n - 1) l).length
  | 0 => by
    rw [sumV_congr (g' := fun _ => 0) (fun p h2 h3 => cnt_leaf h1 ⟨h2, h3⟩)]
    rw [sumV, zero_sum]; rfl
  | l + 1 => by
    have ih := cnt_sum (f := f) h1 l
    rw [sumV_congr (g' := fun q => cntN f n l (2 * q) + cntN f n l (2 * q + 1)) (fun p h2 h3 => cnt_kids h1 ⟨h2, h3⟩)]
    have hle : f / 2 ^ l ≤ (f + n - 1) / 2 ^ l := Nat.div_le_div_right (by omega)
    have eL : f / 2 ^ l % 2 = 1 → cntN f n l (f / 2 ^ l - 1) = 1 := fun o => cnt_out h1 (fun hc => by have q := hc.1; generalize f / 2 ^ l = a at o q; omega)
    have eR : cntN f n l ((f + n - 1) / 2 ^ l + 1) = 1 := cnt_out h1 (fun hc => absurd hc.2 (Nat.not_succ_le_self _))
    have sL : (sideL f (l + 1)).length = (sideL f l).length + (if f / 2 ^ l % 2 = 1 then 1 else 0) := by rw [sideL]; split <;> simp
    have sR : (sideR (f + n - 1) (l + 1)).length = (sideR (f + n - 1) l).length + (if (f + n - 1) / 2 ^ l % 2 = 0 then 1 else 0) := by rw [sideR]; split <;> simp
    rw [sL, sR, ← half_step f l, ← half_step (f + n - 1) l]
    generalize (sideL f l).length = x at *
    generalize (sideR (f + n - 1) l).length = y at *
    generalize f / 2 ^ l = a at *
    generalize (f + n - 1) / 2 ^ l = b at *
    generalize cntN f n l = g at *
    obtain ⟨d, hd⟩ : ∃ d, b / 2 = a / 2 + d := ⟨b / 2 - a / 2, by omega⟩
    rw [hd, sumV_pairs, ← hd]
    have p1 : sumV g (2 * (a / 2)) b = sumV g a b + (if a % 2 = 1 then 1 else 0) := by
      split
      · rename_i o
        obtain ⟨k, hk⟩ : ∃ k, b = a + k := ⟨b - a, by omega⟩
        rw [show 2 * (a / 2) = a - 1 by omega, hk, sumV_cons g (by omega), eL o]; omega
      · rename_i o
        rw [show 2 * (a / 2) = a by omega]; omega
    have p2 : sumV g (2 * (a / 2)) (2 * (b / 2) + 1) = sumV g (2 * (a / 2)) b + (if b % 2 = 0 then 1 else 0) := by
      split
      · rename_i o
        rw [show 2 * (b / 2) + 1 = b + 1 by omega, sumV_snoc g (by omega), eR]
      · rename_i o
        rw [show 2 * (b / 2) + 1 = b by omega]; omega
    rw [p2, p1, ih]; omega
theorem span_count {f n h : Nat} (h1 : 1 ≤ n) (hf : f + n ≤ 2 ^ h) : (spots h (idxF f n) 0).length = (sideL f h).length + (sideR (f + n - 1) h).length := by
  rw [← cnt_sum (f := f) h1 h, Nat.div_eq_of_lt (by omega), Nat.div_eq_of_lt (by omega), sumV_one, cntN, cutN_all (fun x hx => Nat.div_eq_of_lt (by have := idxF_mem.1 hx; omega))]
/-- What the tree has at its places is what the document's node comes to. -/
theorem look_map {κ : Type} [DecidableEq κ] (F : κ → H32) (a : κ) : ∀ (s : List κ) (h : H32), look a (s.zip (s.map F)) = some h → h = F a
  | [], h, e => by simp [look_nil] at e
  | x :: s, h, e => by
    rw [List.map_cons, List.zip_cons_cons, look_cons] at e
    split at e
    · rename_i hx
      have hx' : a = x := hx
      rw [hx', ← Option.some.inj e]
    · exact look_map F a s h e
theorem ref_tree {E : Nat → H32} {g : Nat → H32} {ms : Tm} {f n h : Nat} (ht : TreeOk E h g ms) (h1 : 1 ≤ n) (hf : f + n ≤ 2 ^ h)
    (c : RowCtx f n h ((idxF f n).map fun x => getT E ms (0, x)) ((sideL f h).map fun a => getT E ms a) ((sideR (f + n - 1) h).map fun a => getT E ms a)) : ∀ l p, l ≤ h → okAt h (l, p) →
    NodeOk ((sideL f h).zip ((sideL f h).map fun a => getT E ms a)) ((sideR (f + n - 1) h).zip ((sideR (f + n - 1) h).map fun a => getT E ms a)) f (f + n - 1) l p →
    refN ((sideL f h).zip ((sideL f h).map fun a => getT E ms a)) ((sideR (f + n - 1) h).zip ((sideR (f + n - 1) h).map fun a => getT E ms a)) ((idxF f n).map fun x => getT E ms (0, x)) f l p = nodeH g l p := by
  intro l
  induction l with
  | zero =>
    intro p hl ho hk
    cases e0 : look (0, p) ((sideL f h).zip ((sideL f h).map fun a => getT E ms a)) with
    | some v => rw [refN_left e0, look_map _ _ _ _ e0]; exact ht.get _ ho
    | none =>
      cases e1 : look (0, p) ((sideR (f + n - 1) h).zip ((sideR (f + n - 1) h).map fun a => getT E ms a)) with
      | some v => rw [refN_right e0 e1, look_map _ _ _ _ e1]; exact ht.get _ ho
      | none =>
        obtain ⟨k1, k2⟩ := hk.leaf e0 e1
        have h5 : p - f < n := by omega
        rw [refN_leaf e0 e1, show ((idxF f n).map fun x => getT E ms (0, x)).getD (p - f) zeroH = getT E ms (0, p) by simp [idxF, List.getD, h5, show f + (p - f) = p by omega]]
        exact ht.get _ ho
  | succ l ih =>
    intro p hl ho hk
    cases e0 : look (l + 1, p) ((sideL f h).zip ((sideL f h).map fun a => getT E ms a)) with
    | some v => rw [refN_left e0, look_map _ _ _ _ e0]; exact ht.get _ ho
    | none =>
      cases e1 : look (l + 1, p) ((sideR (f + n - 1) h).zip ((sideR (f + n - 1) h).map fun a => getT E ms a)) with
      | some v => rw [refN_right e0 e1, look_map _ _ _ _ e1]; exact ht.get _ ho
      | none =>
        obtain ⟨k1, k2⟩ := NodeOk.kids c hl hk e0 e1
        obtain ⟨o1, o2⟩ := okAt_kids ho
        rw [refN_join e0 e1, ih _ (by omega) o1 k1, ih _ (by omega) o2 k2]; rfl
theorem span_tree {E : Nat → H32} {g : Nat → H32} {ms : Tm} {f n h : Nat} (hh : h ≤ 32) (ht : TreeOk E h g ms) (h1 : 1 ≤ n) (h2 : n ≤ 256) (hf : f + n ≤ 2 ^ h) :
    chkS (getT E ms (h, 0)) (h : Int) f ((idxF f n).map fun x => getT E ms (0, x)) ((sideL f h).map fun a => getT E ms a) ((sideR (f + n - 1) h).map fun a => getT E ms a) = 0 := by
  have hl : ((idxF f n).map fun x => getT E ms (0, x)).length = n := by rw [List.length_map, idxF_len]
  have c : RowCtx f n h ((idxF f n).map fun x => getT E ms (0, x)) ((sideL f h).map fun a => getT E ms a) ((sideR (f + n - 1) h).map fun a => getT E ms a) := ⟨h1, hf, hl, by rw [List.length_map], by rw [List.length_map]⟩
  have e : spanR (h : Int) f ((idxF f n).map fun x => getT E ms (0, x)) ((sideL f h).map fun a => getT E ms a) ((sideR (f + n - 1) h).map fun a => getT E ms a) = (getT E ms (h, 0), 0) := by
    rw [spanR_nat hh, spanN_0 (by rw [hl]; exact ⟨h1, h2, hf⟩) (by rw [hl]; exact ⟨by rw [List.length_map], by rw [List.length_map]⟩), hl, ref_tree ht h1 hf c h 0 (Nat.le_refl _) (okRoot h) (NodeOk.root c), ht.get _ (okRoot h)]
  rw [chkS, e]; simp
end Go.E
