/-
  Plain words: a tree of hashes, and the map in which it is kept.
-/
import Derived.Test.YtgdjcmehlhebdaaGreatDoorSH
namespace Go.E
set_option linter.unusedVariables false
def joinT (h : Nat) (l r : H32) : List UInt8 := [2, UInt8.ofNat h] ++ l.1 ++ r.1
def joinH (h : Nat) (l r : H32) : H32 := shaH (joinT h l r)
def emptyH : Nat → H32
  | 0 => shaH [0]
  | h + 1 => joinH (h + 1) (emptyH h) (emptyH h)
/-- A node, by the leaves below it. -/
def nodeH (f : Nat → H32) : Nat → Nat → H32
  | 0, p => f p
  | l + 1, p => joinH (l + 1) (nodeH f l (2 * p)) (nodeH f l (2 * p + 1))
theorem nodeH_congr {f g : Nat → H32} : ∀ (l p : Nat), (∀ i, i / 2 ^ l = p → f i = g i) → nodeH f l p = nodeH g l p
  | 0, p, h => h p (by simp)
  | l + 1, p, h => by
    have e : ∀ i, i / 2 ^ (l + 1) = i / 2 ^ l / 2 := fun i => by rw [Nat.pow_succ, Nat.div_div_eq_div_mul]
    rw [nodeH, nodeH, nodeH_congr l (2 * p) fun i hi => h i (by rw [e, hi]; omega), nodeH_congr l (2 * p + 1) fun i hi => h i (by rw [e, hi]; omega)]
theorem nodeH_empty {E : Nat → H32} (hE : ∀ h, E (h + 1) = joinH (h + 1) (E h) (E h)) {f : Nat → H32} (l p : Nat) (h : ∀ i, i / 2 ^ l = p → f i = E 0) : nodeH f l p = E l := by
  induction l generalizing p with
  | zero => exact h p (by simp)
  | succ l ih =>
    have e : ∀ i, i / 2 ^ (l + 1) = i / 2 ^ l / 2 := fun i => by rw [Nat.pow_succ, Nat.div_div_eq_div_mul]
    rw [nodeH, hE, ih (2 * p) fun i hi => h i (by rw [e, hi]; omega), ih (2 * p + 1) fun i hi => h i (by rw [e, hi]; omega)]

abbrev Tm := List ((Nat × Nat) × H32)
def getT (E : Nat → H32) (ms : Tm) (a : Nat × Nat) : H32 := (look a ms).getD (E a.1)
def putT (E : Nat → H32) (ms : Tm) (a : Nat × Nat) (h : H32) : Tm := if h = E a.1 then delR a ms else updR a h ms
theorem putT_nodup {E : Nat → H32} {ms : Tm} (hn : (keysOf ms).Nodup) (a : Nat × Nat) (h : H32) : (keysOf (putT E ms a h)).Nodup := by
  unfold putT; split
  · exact nodup_del a hn
  · exact nodup_upd a h hn
theorem getT_put {E : Nat → H32} {ms : Tm} (hn : (keysOf ms).Nodup) (a b : Nat × Nat) (h : H32) : getT E (putT E ms a h) b = if b = a then h else getT E ms b := by
  unfold getT putT
  by_cases he : h = E a.1
  · rw [if_pos he, look_del a b hn]
    by_cases hb : b = a
    · subst hb; simp [he]
    · simp [hb]
  · rw [if_neg he, look_upd a b h ms]
    by_cases hb : b = a
    · subst hb; simp
    · simp [hb]
def okAt (height : Nat) (a : Nat × Nat) : Prop := a.1 ≤ height ∧ a.2 < 2 ^ (height - a.1)
instance (height : Nat) (a : Nat × Nat) : Decidable (okAt height a) := inferInstanceAs (Decidable (_ ∧ _))
structure TreeOk (E : Nat → H32) (height : Nat) (f : Nat → H32) (ms : Tm) : Prop where
  nodup : (keysOf ms).Nodup
  get : ∀ a, okAt height a → getT E ms a = nodeH f a.1 a.2
  keys : ∀ a h, look a ms = some h → okAt height a ∧ h ≠ E a.1
def updF (f : Nat → H32) (i : Nat) (h : H32) : Nat → H32 := fun j => if j = i then h else f j
/-- The levels from 0 up to l set anew. -/
def setK (E : Nat → H32) (ms : Tm) (i : Nat) (h : H32) : Nat → Tm
  | 0 => putT E ms (0, i) h
  | l + 1 => putT E (setK E ms i h l) (l + 1, i / 2 ^ (l + 1)) (joinH (l + 1) (getT E (setK E ms i h l) (l, 2 * (i / 2 ^ (l + 1)))) (getT E (setK E ms i h l) (l, 2 * (i / 2 ^ (l + 1)) + 1)))
theorem div_lt_pow {i height l : Nat} (hi : i < 2 ^ height) (hl : l ≤ height) : i / 2 ^ l < 2 ^ (height - l) := by
  rw [Nat.div_lt_iff_lt_mul (Nat.two_pow_pos l), ← Nat.pow_add]
  rwa [show height - l + l = height by omega]
theorem pow_split {height l : Nat} (h : l < height) : 2 ^ (height - l) = 2 * 2 ^ (height - (l + 1)) := by
  rw [show height - l = height - (l + 1) + 1 by omega, Nat.pow_succ, Nat.mul_comm]
theorem TreeOk.empty {E : Nat → H32} (hE : ∀ h, E (h + 1) = joinH (h + 1) (E h) (E h)) (height : Nat) : TreeOk E height (fun _ => E 0) [] where
  nodup := List.nodup_nil
  get a _ := by rw [nodeH_empty hE _ _ fun _ _ => rfl]; rfl
  keys a h hl := by cases hl
structure SetOk (E : Nat → H32) (height : Nat) (f f' : Nat → H32) (l : Nat) (ms : Tm) : Prop where
  nodup : (keysOf ms).Nodup
  get : ∀ a, okAt height a → getT E ms a = if a.1 ≤ l then nodeH f' a.1 a.2 else nodeH f a.1 a.2
  keys : ∀ a h, look a ms = some h → okAt height a ∧ h ≠ E a.1
theorem putT_keys {E : Nat → H32} {height : Nat} {ms : Tm} (hn : (keysOf ms).Nodup) (hk : ∀ a h, look a ms = some h → okAt height a ∧ h ≠ E a.1) {b : Nat × Nat} (hb : okAt height b) (x : H32) :
    ∀ a h, look a (putT E ms b x) = some h → okAt height a ∧ h ≠ E a.1 := fun a h hl => by
  unfold putT at hl
  by_cases he : x = E b.1
  · rw [if_pos he, look_del b a hn] at hl
    split at hl
    · cases hl
    · exact hk a h hl
  · rw [if_neg he, look_upd b a x ms] at hl
    split at hl
    · rename_i hab; subst hab
      injection hl with hl
      subst hl
      exact ⟨hb, he⟩
    · exact hk a h hl
theorem setK_ok {E : Nat → H32} {height : Nat} {f : Nat → H32} {ms : Tm} (ht : TreeOk E height f ms) {i : Nat} (hi : i < 2 ^ height) (h : H32) : ∀ l, l ≤ height → SetOk E height f (updF f i h) l (setK E ms i h l)
  | 0, _ => by
    refine ⟨putT_nodup ht.nodup _ _, fun a ha => ?_, putT_keys ht.nodup ht.keys ⟨Nat.zero_le _, by simpa using hi⟩ h⟩
    obtain ⟨l, p⟩ := a
    rw [setK, getT_put ht.nodup]
    by_cases he : (l, p) = (0, i)
    · rw [if_pos he]
      injection he with h1 h2
      subst h1; subst h2
      simp [nodeH, updF]
    · rw [if_neg he, ht.get _ ha]
      by_cases h0 : l ≤ 0
      · obtain rfl : l = 0 := by omega
        have hp : p ≠ i := fun hp => he (by rw [hp])
        simp [nodeH, updF, hp]
      · simp [h0]
  | l + 1, hl => by
    have ih := setK_ok ht hi h l (by omega)
    have hq : i / 2 ^ (l + 1) < 2 ^ (height - (l + 1)) := div_lt_pow hi hl
    have hs := pow_split (show l < height by omega)
    refine ⟨putT_nodup ih.nodup _ _, fun a ha => ?_, putT_keys ih.nodup ih.keys ⟨hl, hq⟩ _⟩
    obtain ⟨l', p⟩ := a
    rw [setK, getT_put ih.nodup]
    by_cases he : (l', p) = (l + 1, i / 2 ^ (l + 1))
    · rw [if_pos he]
      injection he with h1 h2
      subst h1; subst h2
      rw [ih.get _ ⟨by show l ≤ height; omega, by show 2 * (i / 2 ^ (l + 1)) < 2 ^ (height - l); omega⟩, ih.get _ ⟨by show l ≤ height; omega, by show 2 * (i / 2 ^ (l + 1)) + 1 < 2 ^ (height - l); omega⟩]
      simp [nodeH]
    · rw [if_neg he, ih.get _ ha]
      by_cases h0 : l' ≤ l
      · simp [h0, show l' ≤ l + 1 by omega]
      · by_cases h1 : l' = l + 1
        · subst h1
          have hp : p ≠ i / 2 ^ (l + 1) := fun hp => he (by rw [hp])
          simp only [Nat.le_refl, if_true, show ¬ l + 1 ≤ l by omega, if_false]
          refine nodeH_congr _ _ fun j hj => ?_
          have : j ≠ i := fun e => hp (by rw [← hj, e])
          simp [updF, this]
        · simp [h0, show ¬ l' ≤ l + 1 by omega]
theorem TreeOk.set {E : Nat → H32} {height : Nat} {f : Nat → H32} {ms : Tm} (ht : TreeOk E height f ms) {i : Nat} (hi : i < 2 ^ height) (h : H32) : TreeOk E height (updF f i h) (setK E ms i h height) :=
  have k := setK_ok ht hi h height (Nat.le_refl _)
  ⟨k.nodup, fun a ha => by rw [k.get a ha, if_pos ha.1], k.keys⟩
/-! numbers as bytes; hashes in blocks -/
def numB (n s : Nat) : List UInt8 := (List.range s).map fun i => UInt8.ofNat (n / 2 ^ (8 * (s - 1 - i)))
theorem numB_length (n s : Nat) : (numB n s).length = s := by simp [numB]
theorem numB_take (n : Nat) {s i : Nat} (h : i < s) : (numB n s).take (i + 1) = (numB n s).take i ++ [UInt8.ofNat (n / 2 ^ (8 * (s - 1 - i)))] := by
  rw [List.take_succ_eq_append_getElem (by rw [numB_length]; exact h)]
  simp [numB]
theorem numB_all (n s : Nat) : (numB n s).take s = numB n s := List.take_of_length_le (by rw [numB_length]; exact Nat.le_refl _)
theorem numB_one (n : Nat) : numB n 1 = [UInt8.ofNat n] := by simp [numB]
theorem num_step (bs : List UInt8) (n : Nat) {s i : Nat} (h : i < s) : bytesL (bs ++ (numB n s).take i) ++ bytesL [UInt8.ofNat (n / 2 ^ (8 * (s - 1 - i)))] = bytesL (bs ++ (numB n s).take (i + 1)) := by
  rw [← bytesL_append, numB_take n h, List.append_assoc]
theorem num_len (bs : List UInt8) (n : Nat) {s i : Nat} (h : i < s) : (bs ++ (numB n s).take (i + 1)).length = (bs ++ (numB n s).take i).length + 1 := by
  rw [numB_take n h, ← List.append_assoc, List.length_append]; rfl
theorem hcs_all (l : List H32) : (vl (.agg (hcs l).toArray)).all (·.oneCell') = true := List.all_eq_true.2 (hcs_one l)
theorem H32.length (h : H32) : h.1.length = 32 := h.2
theorem joinT_length (h : Nat) (l r : H32) : (joinT h l r).length = 66 := by simp [joinT, l.2, r.2]
variable {C : Ctx} {env : Env} {L : List Assn}
theorem Ld.hash1 {b : Nat} {T T' : TypeId} {x : H32} (h : Has C L (Blk b T' (hvl x))) (hT : rowT C.P T = true) (hs : (C.P.info? T).map (·.size) = some 32) : Ld C L (some ⟨b, 0, none⟩) T (hv x) :=
  Ld.all h hT (by rw [hvl_length]; exact hs)
theorem Ld.hashB {b o : Nat} {T T' : TypeId} {l : List H32} (h : Has C L (Blk b T' (hcs l))) (i : Nat) (hT : rowT C.P T = true) (hs : (C.P.info? T).map (·.size) = some 32) (hi : i < l.length) (ho : o = i * 32) : Ld C L (some ⟨b, o, none⟩) T (hv (l.getD i zeroH)) :=
  Ld.row h hT (by rw [hvl_length]; exact hs) (hcs_at hi ho)
theorem Ld.hashS {A : Option Addr} {k : Nat} {T : TypeId} {l : List H32} (h : Has C L (SlA A (hcs l))) (i : Nat) (hT : rowT C.P T = true) (hs : (C.P.info? T).map (·.size) = some 32) (hi : i < l.length) (hk : k = i * 32) : Ld C L (A.map (·.add k)) T (hv (l.getD i zeroH)) :=
  Ld.slr h hT (by rw [hvl_length]; exact hs) (by rw [hvl_length]; decide) (hcs_at hi hk)
theorem hv_size {P : Program} {T : TypeId} {x : H32} (hs : (P.info? T).map (·.size) = some 32) : (P.info? T).map (·.size) = some (vl (hv x)).length := by rw [vl_hv, hvl_length]; exact hs
theorem hv_all (x : H32) : (vl (hv x)).all (·.oneCell') = true := by rw [vl_hv]; exact hvl_one x
theorem hv_len (x : H32) : (vl (hv x)).length = 32 := by rw [vl_hv, hvl_length]
theorem hcs_set : ∀ (l : List H32) (i : Nat) (x : H32), i < l.length → (hcs l).take (i * 32) ++ vl (hv x) ++ (hcs l).drop (i * 32 + (vl (hv x)).length) = hcs (l.set i x) := by
  intro l i x h
  rw [hv_len, vl_hv, hcs_take, show i * 32 + 32 = (i + 1) * 32 by omega, hcs_drop, List.set_eq_take_append_cons_drop, if_pos h, hcs_append, hcs_cons, List.append_assoc]
/-- The empty hashes up to the k-th, and nought behind them. -/
def emptA (E : Nat → H32) (k : Nat) : List H32 := (List.range k).map E ++ List.replicate (33 - k) zeroH
theorem emptA_length (E : Nat → H32) {k : Nat} (h : k ≤ 33) : (emptA E k).length = 33 := by simp [emptA]; omega
theorem emptA_get (E : Nat → H32) {k i : Nat} (h : i < k) : (emptA E k).getD i zeroH = E i := by
  simp [emptA, List.getD, List.getElem?_append_left, h]
theorem emptA_set (E : Nat → H32) {k : Nat} (h : k < 33) : (emptA E k).set k (E k) = emptA E (k + 1) := by
  have h1 := set_fill ((List.range k).map E) (33 - k) zeroH (E k) (by omega)
  rw [List.length_map, List.length_range] at h1
  rw [emptA, h1, emptA, List.range_succ, List.map_append, show 33 - k - 1 = 33 - (k + 1) by omega]
  rfl
/-- All empty hashes. -/
def emptL (E : Nat → H32) : List H32 := (List.range 33).map E
theorem emptA_all (E : Nat → H32) : emptA E 33 = emptL E := by simp [emptA, emptL]
theorem emptL_length (E : Nat → H32) : (emptL E).length = 33 := by simp [emptL]
theorem emptL_get (E : Nat → H32) {i : Nat} (h : i < 33) : (emptL E).getD i zeroH = E i := by simp [emptL, List.getD, h]
theorem hcs_replicate (n : Nat) : hcs (List.replicate n zeroH) = List.replicate (n * 32) (.int .u8 0) := by
  induction n with
  | zero => rfl
  | succ n ih =>
    rw [List.replicate_succ, hcs_cons, ih, show (n + 1) * 32 = 32 + n * 32 by omega, ← List.replicate_append_replicate]
    rfl
theorem emptA_one (E : Nat → H32) : hcs (emptA E 1) = hvl (E 0) ++ List.replicate (32 * 32) (.int .u8 0) := by
  have : emptA E 1 = E 0 :: List.replicate 32 zeroH := by simp [emptA]
  rw [this, hcs_cons, hcs_replicate]
end Go.E
