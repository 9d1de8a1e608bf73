/- Rising lists are known by their members; the sorted list without doubles; one more number  -/
import Derived.Test.YtgdjcmehlhebdaaGreatDoorSO
set_option maxHeartbeats 25600000
namespace Go.E
theorem zoQ {xs : List Nat} {k : Nat} (h : k < xs.length) : xs.take (k + 1) = xs.take k ++ [xs.getD k 0] := by
 rw [List.take_succ_eq_append_getElem h]; simp [List.getD, h]
theorem ztR {ys : List Nat} (hs : ys.Pairwise (· ≤ ·)) {i j : Nat} (hij : i ≤ j) (hj : j < ys.length) : ys.getD i 0 ≤ ys.getD j 0 := by
 rcases Nat.eq_or_lt_of_le hij with rfl | h
 ·exact Nat.le_refl _
 ·have := List.pairwise_iff_getElem.1 hs i j ow hj h
  rwa [show ys.getD i 0 = ys[i] by simp [List.getD, show i < ys.length by omega], show ys.getD j 0 = ys[j] by simp [List.getD, hj]]
theorem ztS {ys : List Nat} (hs : ys.Pairwise (· < ·)) {i j : Nat} (hij : i < j) (hj : j < ys.length) : ys.getD i 0 < ys.getD j 0 := by
 have := List.pairwise_iff_getElem.1 hs i j ow hj hij
 rwa [show ys.getD i 0 = ys[i] by simp [List.getD, show i < ys.length by omega], show ys.getD j 0 = ys[j] by simp [List.getD, hj]]
theorem zoR (xs : List Nat) : (srt xs).Pairwise (· ≤ ·) := by
 have h := List.pairwise_mergeSort (le := fun x y => !ltN y x) (fun a b c => by simp only [ltN, Bool.not_eq_true', decide_eq_false_iff_not]; omega) (fun a b => by simp only [ltN, Bool.or_eq_true, Bool.not_eq_true', decide_eq_false_iff_not]; omega) xs
 exact h.imp fun {a b} h => by simp only [ltN, Bool.not_eq_true', decide_eq_false_iff_not] at h; omega
theorem zd9 (xs : List Nat) : (srt xs).Perm xs := List.mergeSort_perm xs _
theorem zsB {xs : List Nat} {x : Nat} : x ∈ srt xs ↔ x ∈ xs := (zd9 xs).mem_iff
theorem zgK : ∀ {a b : List Nat}, a.Nodup → (∀ x ∈ a, x ∈ b) → a.length ≤ b.length
 | [], b, _, _ => Nat.zero_le _
 | x :: a, b, h, hs => by
  obtain ⟨h1, h2⟩ := List.nodup_cons.1 h
  have hx := hs x (List.mem_cons_self ..)
  have := zgK (b := b.erase x) h2 fun y hy => (List.mem_erase_of_ne (fun e => h1 (by rw [← e]; exact hy))).2 (hs y (List.mem_cons_of_mem _ hy))
  rw [List.length_erase_of_mem hx] at this
  have := List.length_pos_of_mem hx
  rw [List.length_cons]; omega
theorem zfj {f g : Nat → H32} : ∀ (l p : Nat) (xs : List Nat), xs.Pairwise (· < ·) → (∀ x ∈ xs, x / 2 ^ l = p) → (∀ i, i / 2 ^ l = p → i ∉ xs → f i = g i) →
  zaH l xs p (xs.map g) ((zaj l xs p).map fun a => zbq f a.1 a.2) = zbq g l p
 | 0, p, xs, hs, hx, hf => by
  by_cases he : xs = []
  ·subst he
   rw [zbJ, zbF]
   exact zbT 0 p fun i hi => hf i hi (by simp)
  ·rw [zdl he]
   cases xs with
   | nil => exact absurd rfl he
   | cons x xs =>
    have := hx x (List.mem_cons_self ..)
    rw [Nat.pow_zero, Nat.div_one] at this
    subst this; rfl
 | l + 1, p, xs, hs, hx, hf => by
  by_cases he : xs = []
  ·subst he
   rw [zbJ, zbF]
   exact zbT (l + 1) p fun i hi => hf i hi (by simp)
  ·have hp := zcy l p xs hs hx
   have q1 : ∀ a b : List Nat, ((a ++ b).map g).take a.length = a.map g := fun a b => by rw [List.map_append, List.take_left' (by simp)]
   have q2 : ∀ a b : List Nat, ((a ++ b).map g).drop a.length = b.map g := fun a b => by rw [List.map_append, List.drop_left' (by simp)]
   have e1 := q1 (cutN xs l (2 * p)) (cutN xs l (2 * p + 1))
   have e2 := q2 (cutN xs l (2 * p)) (cutN xs l (2 * p + 1))
   rw [← hp] at e1 e2
   rw [zcd he, zcc he, e1, e2, List.map_append, List.take_append_of_le_length (by simp), List.take_of_length_le (by simp), List.drop_append_of_le_length (by simp), List.drop_of_length_le (by simp), List.nil_append]
   have up : ∀ i q, i / 2 ^ l = q → i / 2 ^ (l + 1) = q / 2 := fun i q h => by rw [← zay, h]
   have hp2 := hp
   rw [zfj l (2 * p) (cutN xs l (2 * p)) (zbN hs) zcg fun i hi hn => hf i (by rw [up i _ hi]; omega) fun hm => hn (List.mem_filter.2 ⟨hm, by simpa using hi⟩),
    zfj l (2 * p + 1) (cutN xs l (2 * p + 1)) (zbN hs) zcg fun i hi hn => hf i (by rw [up i _ hi]; omega) fun hm => hn (List.mem_filter.2 ⟨hm, by simpa using hi⟩)]
   rfl
def lv0 (ks : List (Nat × Nat)) : List Nat := (ks.filter fun a => a.1 == 0).map (·.2)
theorem zf0 (ks : List (Nat × Nat)) (a : Nat × Nat) : lv0 (ks ++ [a]) = if a.1 = 0 then lv0 ks ++ [a.2] else lv0 ks := by
 unfold lv0
 rw [List.filter_append, List.map_append]
 by_cases h : a.1 = 0 <;> simp [h]
theorem zkV {ks : List (Nat × Nat)} {p : Nat} : p ∈ lv0 ks ↔ (0, p) ∈ ks := by
 unfold lv0
 rw [List.mem_map]
 constructor
 ·rintro ⟨⟨l, q⟩, h, rfl⟩
  obtain ⟨h1, h2⟩ := List.mem_filter.1 h
  obtain rfl : l = 0 := by simpa using h2
  exact h1
 ·exact fun h => ⟨(0, p), List.mem_filter.2 ⟨h, rfl⟩, rfl⟩
theorem zjF {ks : List (Nat × Nat)} (h : ks.Nodup) : (lv0 ks).Nodup := by
 unfold lv0
 refine List.pairwise_map.2 (List.Pairwise.imp_of_mem (fun {a b} ha hb hne => ?_) (List.Pairwise.filter (fun a : Nat × Nat => a.1 == 0) h))
 have a1 := (List.mem_filter.1 ha).2
 have a2 := (List.mem_filter.1 hb).2
 have b1 : a.1 = 0 := by simpa using a1
 have b2 : b.1 = 0 := by simpa using a2
 exact fun e => hne (Prod.ext (by rw [b1, b2]) e)
def lvT (ms : Tm) : List Nat := srt (lv0 (zas ms))
theorem zti {ms : Tm} {ks : List (Nat × Nat)} (h : ks.Perm (zas ms)) : srt (lv0 ks) = lvT ms := by
 have hp : (lv0 ks).Perm (lv0 (zas ms)) := (h.filter _).map _
 have h1 := ((zd9 (lv0 ks)).trans hp).trans (zd9 (lv0 (zas ms))).symm
 exact h1.eq_of_pairwise (fun a b _ _ h1 h2 => Nat.le_antisymm h1 h2) (zoR _) (zoR _)
theorem zsC {ms : Tm} {p : Nat} : p ∈ lvT ms ↔ ∃ h, look (0, p) ms = some h := by
 rw [lvT, zsB, zkV]
 cases e : look (0, p) ms with
 | none => exact ⟨fun h => absurd h (zb3.1 e), fun ⟨h, k⟩ => by cases k⟩
 | some v => exact ⟨fun _ => ⟨v, rfl⟩, fun _ => Decidable.not_not.1 fun k => by rw [zb3.2 k] at e; cases e⟩
theorem zl3 {ms : Tm} (hn : (zas ms).Nodup) : (lvT ms).Pairwise (· < ·) := by
 have h1 : (lvT ms).Nodup := (zd9 _).nodup_iff.2 (zjF hn)
 exact (zoR _).imp₂ (fun a b h1 h2 => Nat.lt_of_le_of_ne h1 h2) h1
theorem TreeOk.lv {E : Nat → H32} {height : Nat} {f : Nat → H32} {ms : Tm} (ht : TreeOk E height f ms) {p : Nat} : p ∈ lvT ms ↔ p < 2 ^ height ∧ f p ≠ E 0 := by
 rw [zsC]
 constructor
 ·rintro ⟨h, e⟩
  obtain ⟨h1, h2⟩ := ht.keys _ _ e
  have h3 : p < 2 ^ height := by have := h1.2; simpa using this
  refine ⟨h3, ?_⟩
  have := ht.get (0, p) (ok0 h3)
  rw [zhD E ms _ e] at this
  have h4 : h = f p := this
  rw [← h4]; exact h2
 ·rintro ⟨h1, h2⟩
  cases e : look (0, p) ms with
  | some v => exact ⟨v, rfl⟩
  | none =>
   have := ht.get (0, p) (ok0 h1)
   rw [zhE E ms _ e] at this
   exact absurd this.symm h2
theorem TreeOk.leafv {E : Nat → H32} {height : Nat} {f : Nat → H32} {ms : Tm} (ht : TreeOk E height f ms) {p : Nat} (h : p < 2 ^ height) : getT E ms (0, p) = f p := ht.get (0, p) (ok0 h)
def cutF (E : Nat → H32) (g : Nat → H32) (vs : List Nat) (b : Nat) : Nat → H32 := fun p => if p ∈ vs ∧ p < b then g p else E 0
def zhl (E : Nat → H32) (g : Nat → H32) (vs : List Nat) : Nat → H32 := fun p => if p ∈ vs then g p else E 0
theorem zoS (E : Nat → H32) (g : Nat → H32) : zhl E g [] = fun _ => E 0 := funext fun p => if_neg (by simp)
theorem zm1 (E : Nat → H32) (g : Nat → H32) (vs : List Nat) (x : Nat) : updF (zhl E g vs) x (g x) = zhl E g (vs ++ [x]) := funext fun p => by
 unfold updF zhl
 by_cases h : p = x
 ·subst h; simp
 ·simp [h]
theorem zoT (E : Nat → H32) (g : Nat → H32) {vs : List Nat} {b : Nat} (h : ∀ x ∈ vs, x < b) : zhl E g vs = cutF E g vs b := funext fun p => by
 unfold zhl cutF
 by_cases hp : p ∈ vs
 ·simp [hp, h p hp]
 ·simp [hp]
theorem zoU (E : Nat → H32) (g : Nat → H32) {pre : List Nat} {vs : List Nat} {b k : Nat} (hs : vs.Pairwise (· < ·)) (hk : k < vs.length) (hp : pre = vs.take k) (h1 : ∀ x ∈ pre, x < b) (h2 : b ≤ vs.getD k 0) : zhl E g pre = cutF E g vs b := funext fun p => by
 subst hp
 unfold zhl cutF
 have e : p ∈ vs.take k ↔ p ∈ vs ∧ p < b := by
  constructor
  ·exact fun h => ⟨List.mem_of_mem_take h, h1 p h⟩
  ·rintro ⟨h, hb⟩
   obtain ⟨j, hj, rfl⟩ := List.mem_iff_getElem.1 h
   rcases Nat.lt_or_ge j k with h3 | h3
   ·exact List.mem_take_iff_getElem.2 ⟨j, by omega, rfl⟩
   ·exfalso
    have := ztR (hs.imp fun {a b} h => Nat.le_of_lt h) h3 hj
    rw [show vs.getD j 0 = vs[j] by simp [List.getD, hj]] at this
    omega
 by_cases h : p ∈ vs.take k
 ·rw [if_pos h, if_pos (e.1 h)]
 ·rw [if_neg h, if_neg fun q => h (e.2 q)]
theorem ziA {E : Nat → H32} {height : Nat} {g : Nat → H32} {ms : Tm} (ht : TreeOk E height g ms) {b p : Nat} (h1 : p < 2 ^ height) (h2 : p < b) : cutF E g (lvT ms) b p = g p := by
 unfold cutF
 by_cases h : p ∈ lvT ms
 ·rw [if_pos ⟨h, h2⟩]
 ·rw [if_neg fun k => h k.1]
  exact (Decidable.not_not.1 fun k => h (ht.lv.2 ⟨h1, k⟩)).symm
theorem zeY {E : Nat → H32} {height : Nat} {g : Nat → H32} {ms : Tm} (ht : TreeOk E height g ms) {b p : Nat} (h : 2 ^ height ≤ p ∨ b ≤ p) : cutF E g (lvT ms) b p = E 0 := by
 unfold cutF
 refine if_neg fun k => ?_
 have := (ht.lv.1 k.1).1
 have := k.2
 omega
theorem zl4 {i l p h : Nat} (hl : l ≤ h) (hp : p < 2 ^ (h - l)) (e : i / 2 ^ l = p) : i < 2 ^ h := by
 subst e
 rwa [Nat.div_lt_iff_lt_mul (Nat.two_pow_pos l), ← Nat.pow_add, show h - l + l = h by omega] at hp
theorem zjG {E : Nat → H32} (hE : ∀ h, E (h + 1) = zbj (h + 1) (E h) (E h)) {F : Nat → H32} {low : Nat} (h : ∀ p, 2 ^ low ≤ p → F p = E 0) : ∀ k, zbq F (low + k) 0 = zfP E (zbq F low 0) low k
 | 0 => rfl
 | k + 1 => by
  rw [zfP, ← zjG hE h k, ← zet hE (f := F) (low + k) 1 fun i hi => h i ?_]
  ·rfl
  ·have h1 : 2 ^ low ≤ 2 ^ (low + k) := Nat.pow_le_pow_right (by decide) ow
   have h2 : 2 ^ (low + k) ≤ i := by
    have := (Nat.le_div_iff_mul_le (Nat.two_pow_pos (low + k))).1 (Nat.le_of_eq hi.symm)
    omega
   omega
theorem zoV {E : Nat → H32} (hE : ∀ h, E (h + 1) = zbj (h + 1) (E h) (E h)) {g : Nat → H32} {ms : Tm} {was blocks : Nat} (ht : TreeOk E (hgt was) g ms) (hw : okN was) (hb : okN blocks) (hl : was ≤ blocks) (h2 : ∀ p, was ≤ p → g p = E 0) :
  zhj E (getT E ms (hgt was, 0)) was blocks = zbq (cutF E g (lvT ms) blocks) (hgt blocks) 0 := by
 have hm := zeS hw hb hl
 rw [(zkB ⟨hw, hb, hl⟩).1, ht.get _ (zek _)]
 have hn : zbq g (hgt was) 0 = zbq (cutF E g (lvT ms) blocks) (hgt was) 0 := zbT _ _ fun i hi => by
  have hi2 := zl4 (Nat.le_refl _) (by rw [Nat.sub_self]; decide) hi
  by_cases hib : i < blocks
  ·exact (ziA ht hi2 hib).symm
  ·rw [zeY ht (.inr ow)]; exact h2 i ow
 show zfP E (zbq g (hgt was) 0) (hgt was) (hgt blocks - hgt was) = _
 rw [hn, ← zjG hE (fun p hp => zeY ht (.inl hp)), show hgt was + (hgt blocks - hgt was) = hgt blocks by omega]
theorem zew {f : Nat → H32} {i : Nat} {ps : List H32} : ∀ k, (∀ j, j < k → ps.getD j zac = zbq f j ((i / 2 ^ j) ^^^ 1)) → zaz (f i) i ps k = zbq f k (i / 2 ^ k)
 | 0, _ => by simp [zaz, zbq]
 | k + 1, h => by
  have ih := zew k fun j hj => h j ow
  by_cases hb : i / 2 ^ k % 2 = 1
  ·rw [zdL hb, ih, h k ow, zqE f hb]
  ·rw [zc7 hb, ih, h k ow, zoe f hb]
theorem zq4 {E : Nat → H32} (hE : ∀ h, E (h + 1) = zbj (h + 1) (E h) (E h)) {g : Nat → H32} {ms : Tm} {was blocks : Nat} (ht : TreeOk E (hgt was) g ms) (hw : okN was) (hb : okN blocks) (hl : blocks ≤ was) :
  cutR E (getT E ms (hgt was, 0)) (getT E ms (0, blocks - 1)) (zcG E ms (hgt was) (blocks - 1)) was blocks = (zbq (cutF E g (lvT ms) blocks) (hgt blocks) 0, 0) := by
 have hm := zeS hb hw hl
 have hwl := zdA hw
 have hbl := zdA hb
 have hb1 := hb.1
 have hi : blocks - 1 < 2 ^ hgt was := by omega
 have hbi : blocks - 1 < 2 ^ hgt blocks := by omega
 have hpl : (zcG E ms (hgt was) (blocks - 1)).length = hgt was := zcS ..
 have hlf : getT E ms (0, blocks - 1) = g (blocks - 1) := ht.leafv hi
 have hc : zbt (getT E ms (0, blocks - 1)) (blocks - 1) (zcG E ms (hgt was) (blocks - 1)) = getT E ms (hgt was, 0) := by
  rw [zbt, hpl, hlf, zew _ fun j hj => by rw [zlP ht hi, zji g hj], ht.get _ (zek _), Nat.div_eq_of_lt hi]
 rw [zrN ⟨hw, hb, hl⟩ hpl hc, zbt, zbn]
 have hx : getT E ms (0, blocks - 1) = cutF E g (lvT ms) blocks (blocks - 1) := by rw [hlf, ziA ht hi ow]
 rw [hx, zew, Nat.div_eq_of_lt hbi]
 intro j hj
 have hjw : j < hgt was := by omega
 have e : (cutP E (zcG E ms (hgt was) (blocks - 1)) (blocks - 1) (hgt blocks) (hgt blocks)).getD j zac = if (blocks - 1) / 2 ^ j % 2 = 0 then E j else zbq g j (((blocks - 1) / 2 ^ j) ^^^ 1) := by
  rw [← zji g hjw, ← zlP ht hi]
  simp [cutP, List.getD, hj]
 rw [e]
 split
 ·rename_i h0
  refine (zet hE j _ fun q hq => zeY ht (.inr ?_)).symm
  rw [zgo, if_pos h0] at hq
  have h1 := Nat.lt_of_div_lt_div (show (blocks - 1) / 2 ^ j < q / 2 ^ j by rw [hq]; exact Nat.lt_succ_self _)
  omega
 ·rename_i h0
  refine zbT j _ fun q hq => ?_
  have hq2 := hq
  rw [zgo, if_neg h0] at hq
  have h1 : q < blocks - 1 := Nat.lt_of_div_lt_div (show q / 2 ^ j < (blocks - 1) / 2 ^ j by rw [hq]; generalize (blocks - 1) / 2 ^ j = n at h0 ⊢; omega)
  exact (ziA ht ow ow).symm
theorem zq5 {E : Nat → H32} {height : Nat} {f : Nat → H32} {ms : Tm} (ht : TreeOk E height f ms) {s : Sd} (h : ∀ a ∈ s, okAt height a) : (s.map fun a => getT E ms a) = s.map fun a => zbq f a.1 a.2 :=
 List.map_congr_left fun a ha => ht.get a (h a ha)
theorem zjH {E : Nat → H32} {height : Nat} {f g : Nat → H32} {ms : Tm} {xs : List Nat} (hh : height ≤ 32) (ht : TreeOk E height f ms) (hi : idxOk height xs) (hf : ∀ i, i < 2 ^ height → i ∉ xs → f i = g i) :
  zbL (height : Int) xs (xs.map g) ((zaj height xs 0).map fun a => getT E ms a) = (zbq g height 0, 0) := by
 rw [zcH hh, zit hi (by rw [List.length_map]) (by rw [List.length_map]), zq5 ht (ziq height xs 0 (zek height))]
 rw [zfj height 0 xs hi.rise hi.root fun i h1 h2 => hf i (zl4 (Nat.le_refl _) (by rw [Nat.sub_self]; decide) h1) h2]
theorem zkW {E : Nat → H32} {height : Nat} {f : Nat → H32} {ms : Tm} {xs : List Nat} (ht : TreeOk E height f ms) (hi : idxOk height xs) : (xs.map fun x => getT E ms (0, x)) = xs.map f :=
 List.map_congr_left fun x hx => ht.leafv (hi.low x hx)
theorem zl5 {E : Nat → H32} {height : Nat} {f : Nat → H32} {ms : Tm} {xs : List Nat} (hh : height ≤ 32) (ht : TreeOk E height f ms) (hi : idxOk height xs) :
  zbL (height : Int) xs (xs.map fun x => getT E ms (0, x)) ((zaj height xs 0).map fun a => getT E ms a) = (getT E ms (height, 0), 0) := by
 rw [zkW ht hi, zjH hh ht hi fun _ _ _ => rfl, ht.get _ (zek _)]
end Go.E
