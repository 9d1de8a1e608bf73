/- Plain words: what a truth is behind orders, and what blames need. -/
import Derived.Test.YtgdjcmehlhebdaaGreatDoorXR
set_option maxHeartbeats 25600000
namespace Go.E
abbrev Sm := List (Nat × Sealed)
def itS (S : Sm) (i : Nat) : Item := match look i S with
 | some s => ⟨true, s⟩
 | none => ⟨false, zb7⟩
def gS (S : Sm) (i : Nat) : H32 := shaH (zb2 i (itS S i))
theorem zrp {S : Sm} {i : Nat} (h : look i S = none) : itS S i = ⟨false, zb7⟩ := by rw [itS, h]
theorem zg5 {S : Sm} {i : Nat} (h : look i S = none) : gS S i = shaH [0] := by rw [gS, zrp h]; rfl
theorem ztu : gS [] = fun _ => shaH [0] := funext fun i => zg5 rfl
def zb8 (o : Order) (k : Nat) : H32 := if o.kind = 1 then shaH (zcN (o.xs.getD k 0) (o.ss.getD k zb7)) else shaH [0]
def zfR (o : Order) (S : Sm) (k : Nat) : Sm := if o.kind = 1 then updR (o.xs.getD k 0) (o.ss.getD k zb7) (delR (o.xs.getD k 0) S) else delR (o.xs.getD k 0) S
def runS (o : Order) (S : Sm) : Nat → Sm
 | 0 => S
 | k + 1 => zfR o (runS o S k) k
theorem zg6 {o : Order} {S : Sm} {k : Nat} (h : (zas S).Nodup) : (zas (zfR o S k)).Nodup := by
 unfold zfR; split
 ·exact zeH _ _ (zdH _ h)
 ·exact zdH _ h
theorem zj2 {o : Order} {S : Sm} {k : Nat} (h : (zas S).Nodup) (p : Nat) : look p (zfR o S k) = if p = o.xs.getD k 0 then (if o.kind = 1 then some (o.ss.getD k zb7) else none) else look p S := by
 unfold zfR
 split
 ·rw [zfS, zeI _ _ h]
  by_cases hp : p = o.xs.getD k 0
  ·rw [if_pos hp, if_pos hp]
  ·rw [if_neg hp, if_neg hp, if_neg hp]
 ·rw [zeI _ _ h]
theorem zlg {o : Order} {S : Sm} {k : Nat} (h : (zas S).Nodup) : gS (zfR o S k) = updF (gS S) (o.xs.getD k 0) (zb8 o k) := funext fun p => by
 unfold updF gS itS
 rw [zj2 h]
 by_cases hp : p = o.xs.getD k 0
 ·rw [if_pos hp, if_pos hp]
  unfold zb8
  by_cases hk : o.kind = 1
  ·rw [if_pos hk, if_pos hk, hp]; rfl
  ·rw [if_neg hk, if_neg hk]; rfl
 ·rw [if_neg hp, if_neg hp]
theorem zpv (o : Order) (S : Sm) (k : Nat) : (zfR o S k).length ≤ S.length + 1 := by
 have hk : ∀ (M : Sm), (zas M).length = M.length := fun M => by simp [zas]
 have hd : ∀ (x : Nat) (M : Sm), (delR x M).length ≤ M.length := fun x M => by
  induction M with
  | nil => exact Nat.le_refl _
  | cons e M ih =>
   rw [delR]
   split
   ·exact Nat.le_succ _
   ·rw [List.length_cons, List.length_cons]; omega
 unfold zfR
 split
 ·have h1 := zid (o.xs.getD k 0) (o.ss.getD k zb7) (delR (o.xs.getD k 0) S)
  have h2 := hd (o.xs.getD k 0) S
  rw [← hk, h1]
  split
  ·rw [hk]; omega
  ·rw [List.length_append, hk, List.length_singleton]; omega
 ·have := hd (o.xs.getD k 0) S; omega
theorem zpw {o : Order} {S : Sm} {k n : Nat} (hn : (zas S).Nodup) (h : ∀ i ∈ zas S, i < n) (hk : o.xs.getD k 0 < n) : ∀ i ∈ zas (zfR o S k), i < n := fun i hi => by
 by_cases hp : i = o.xs.getD k 0
 ·omega
 ·refine h i (Decidable.byContradiction fun h2 => ?_)
  have h3 := zb3.2 h2
  have h4 := zj2 (o := o) (k := k) hn i
  rw [if_neg hp, h3] at h4
  exact (zb3.1 h4) hi
def cutS (b : Nat) (S : Sm) : Sm := S.filter fun e => decide (e.1 < b)
structure TruOk (E : Nat → H32) (n : Nat) (S : Sm) (ms : Tm) (c : Nat) : Prop where
 on : okN n
 ok : TreeOk E (hgt n) (gS S) ms
 nd : (zas S).Nodup
 low : ∀ i ∈ zas S, i < n
 len : S.length ≤ c
theorem TruOk.new {E : Nat → H32} (hE : ∀ h, E (h + 1) = zbj (h + 1) (E h) (E h)) (hE0 : E 0 = shaH [0]) {n : Nat} (h : okN n) : TruOk E n [] [] 0 :=
 ⟨h, by rw [ztu, ← hE0]; exact TreeOk.empty hE _, List.nodup_nil, (fun i hi => by cases hi), Nat.zero_le _⟩
theorem TruOk.mono {E : Nat → H32} {n : Nat} {S : Sm} {ms : Tm} {c d : Nat} (h : TruOk E n S ms c) (hd : c ≤ d) : TruOk E n S ms d := ⟨h.on, h.ok, h.nd, h.low, Nat.le_trans h.len hd⟩
theorem TruOk.low64 {E : Nat → H32} {n : Nat} {S : Sm} {ms : Tm} {c : Nat} (h : TruOk E n S ms c) : ∀ p, n ≤ p → gS S p = shaH [0] := fun p hp => zg5 (zb3.2 fun hm => by have := h.low p hm; omega)
theorem TruOk.cnt {E : Nat → H32} (hE0 : E 0 = shaH [0]) {n : Nat} {S : Sm} {ms : Tm} {c : Nat} (h : TruOk E n S ms c) (hc : c < 4294967296) : (lv0 (zas ms)).length < 4294967296 :=
 ztt h.ok (is := zas S) (fun p hp => Decidable.byContradiction fun hm => hp (by rw [hE0]; exact zg5 (zb3.2 hm))) (by simp only [zas, List.length_map]; have := h.len; omega)
theorem TruOk.step {E : Nat → H32} {n : Nat} {S : Sm} {ms : Tm} {c : Nat} (h : TruOk E n S ms c) {o : Order} {k : Nat} (hk : o.xs.getD k 0 < n) : TruOk E n (zfR o S k) (setK E ms (o.xs.getD k 0) (zb8 o k) (hgt n)) (c + 1) :=
 ⟨h.on, by rw [zlg h.nd]; exact h.ok.set (by have := zdA h.on; omega) _, zg6 h.nd, zpw h.nd h.low hk, by have := zpv o S k; have := h.len; omega⟩
theorem ze5 {b : Nat} {p : Nat} : ∀ {S : Sm}, look p (cutS b S) = if p < b then look p S else none
 | [] => by simp [cutS, zdc]
 | e :: S => by
  have ih := ze5 (b := b) (p := p) (S := S)
  unfold cutS at ih ⊢
  rw [List.filter_cons]
  by_cases hb : e.1 < b
  ·rw [if_pos (by simpa using hb), za5, za5, ih]
   by_cases hp : p = e.1
   ·rw [if_pos hp, if_pos ow, if_pos hp]
   ·rw [if_neg hp, if_neg hp]
  ·rw [if_neg (by simpa using hb), za5, ih]
   by_cases hp : p = e.1
   ·rw [if_neg ow, if_neg ow]
   ·rw [if_neg hp]
theorem zpx {E : Nat → H32} (hE0 : E 0 = shaH [0]) {n : Nat} {S : Sm} {ms : Tm} {c : Nat} (h : TruOk E n S ms c) (b : Nat) : gS (cutS b S) = cutF E (gS S) (lvT ms) b := funext fun p => by
 by_cases hb : p < b
 ·by_cases hp : p < 2 ^ hgt n
  ·rw [ziA h.ok hp hb]
   unfold gS itS
   rw [ze5, if_pos hb]
  ·rw [zeY h.ok (.inl ow), hE0]
   refine zg5 ?_
   rw [ze5, if_pos hb]
   exact zb3.2 fun hm => by have := h.low p hm; have := zdA h.on; omega
 ·rw [zeY h.ok (.inr ow), hE0]
  exact zg5 (by rw [ze5, if_neg hb])
theorem TruOk.cut {E : Nat → H32} (hE0 : E 0 = shaH [0]) {n : Nat} {S : Sm} {ms ms2 : Tm} {c : Nat} (h : TruOk E n S ms c) {b : Nat} (hb : okN b) (h2 : TreeOk E (hgt b) (cutF E (gS S) (lvT ms) b) ms2) : TruOk E b (cutS b S) ms2 c :=
 ⟨hb, by rw [zpx hE0 h]; exact h2, (List.filter_sublist.map _).nodup h.nd, fun i hi => by
  obtain ⟨e, he, rfl⟩ := List.mem_map.1 hi
  simpa using (List.mem_filter.1 he).2, Nat.le_trans (List.length_filter_le _ _) h.len⟩
theorem zpy {o : Order} {S : Sm} (hn : (zas S).Nodup) (hr : o.xs.Pairwise (· < ·)) : ∀ k, k ≤ o.xs.length → (zas (runS o S k)).Nodup ∧ (∀ p, (∀ j, j < k → p ≠ o.xs.getD j 0) → gS (runS o S k) p = gS S p) ∧ ∀ j, j < k → gS (runS o S k) (o.xs.getD j 0) = zb8 o j
 | 0, _ => ⟨hn, fun p _ => rfl, fun j h => absurd h (Nat.not_lt_zero _)⟩
 | k + 1, h => by
  obtain ⟨h1, h2, h3⟩ := zpy hn hr k ow
  refine ⟨zg6 h1, fun p hp => ?_, fun j hj => ?_⟩
  ·rw [runS, zlg h1]; unfold updF
   rw [if_neg (hp k ow)]
   exact h2 p fun j hj => hp j ow
  ·rw [runS, zlg h1]; unfold updF
   rcases Nat.lt_or_ge j k with hlt | hge
   ·have := ztS hr hlt (show k < o.xs.length by omega)
    rw [if_neg ow]
    exact h3 j hlt
   ·obtain rfl : j = k := by omega
    rw [if_pos rfl]
theorem ztv {o : Order} {S : Sm} (hn : (zas S).Nodup) (hr : o.xs.Pairwise (· < ·)) : o.xs.map (gS (runS o S o.xs.length)) = (List.range o.xs.length).map (zb8 o) := by
 have h := (zpy hn hr o.xs.length (Nat.le_refl _)).2.2
 refine List.ext_getElem (by simp) fun i h1 h2 => ?_
 rw [List.length_map] at h1
 have := h i h1
 rw [show o.xs.getD i 0 = o.xs[i] by simp [List.getD, h1]] at this
 simp [this]
theorem ztw {o : Order} {S : Sm} (hn : (zas S).Nodup) (hr : o.xs.Pairwise (· < ·)) {p : Nat} (hp : p ∉ o.xs) : gS (runS o S o.xs.length) p = gS S p :=
 (zpy hn hr o.xs.length (Nat.le_refl _)).2.1 p fun j hj e => hp (by rw [e]; exact zbk 0 hj)
def doN (o : Order) (n : Nat) : Nat := if zce o n ∧ o.kind = 3 then o.blocks else n
def doS (o : Order) (n : Nat) (S : Sm) : Sm := if zce o n then (if o.kind = 3 then cutS o.blocks S else runS o S o.xs.length) else S
def curS (q : Nat) (ms : Sm) (done : List Nat) : Sm := ms.filter fun p => !(decide (p.1 ∈ done) && decide (q ≤ p.1))
theorem zrq (q : Nat) (ms : Sm) : curS q ms [] = ms := by simp [curS]
theorem zpz {q k : Nat} (ms : Sm) (done : List Nat) (h : ¬ q ≤ k) : curS q ms (done ++ [k]) = curS q ms done := by
 refine List.filter_congr fun p hp => ?_
 by_cases h1 : q ≤ p.1
 ·have : p.1 ≠ k := fun e => h (e ▸ h1)
  simp [h1, this]
 ·simp [h1]
theorem zrr {q k : Nat} {ms : Sm} (hn : (zas ms).Nodup) (done : List Nat) (h : q ≤ k) : delR k (curS q ms done) = curS q ms (done ++ [k]) := by
 have hc : (zas (curS q ms done)).Nodup := zks _ hn
 rw [zgj k hc]
 unfold curS
 rw [List.filter_filter]
 refine List.filter_congr fun p hp => ?_
 by_cases h1 : p.1 = k
 ·simp [h1, h]
 ·simp [h1]
theorem zrs {q : Nat} {ms : Sm} {done : List Nat} (h : ∀ p ∈ curS q ms done, p.1 ∈ done) : curS q ms done = cutS q ms := by
 refine List.filter_congr fun p hp => ?_
 by_cases h1 : p.1 < q
 ·have : ¬ q ≤ p.1 := by omega
  simp [h1, this]
 ·have h2 : q ≤ p.1 := by omega
  by_cases h3 : p.1 ∈ done
  ·simp [h1, h2, h3]
  ·exact absurd (h p (List.mem_filter.2 ⟨hp, by simp [h3]⟩)) h3
theorem zf7 {q : Nat} {ms : Sm} {done : List Nat} {p : Nat × Sealed} (h : p ∈ curS q ms done) : p ∈ ms := (List.mem_filter.1 h).1
theorem and32 {n : Nat} (h : n < 4294967296) : Value.int .u64 ((n &&& 4294967295 : Nat) : Int) = .int .u64 (n : Int) := by
 have e := Nat.and_two_pow_sub_one_eq_mod n 32
 have e2 : n &&& 4294967295 = n := by rw [show (4294967295 : Nat) = 2 ^ 32 - 1 from rfl, e]; omega
 rw [e2]
theorem shr32 {n : Nat} (h : n < 4294967296) : Value.int .u64 ((n / 2 ^ 32 : Nat) : Int) = .int .u64 ((0 : Nat) : Int) := by
 rw [Nat.div_eq_of_lt ow]
def zft (o : Order) (z : H32) (k : Nat) : List H32 := (List.range o.xs.length).map fun j => if j < k then shaH (zcN (o.xs.getD j 0) (o.ss.getD j zb7)) else z
theorem ze6 (o : Order) (z : H32) (k : Nat) : (zft o z k).length = o.xs.length := by simp [zft]
theorem znl (o : Order) (z : H32) : zft o z 0 = List.replicate o.xs.length z := by
 refine List.ext_getElem (by simp [zft]) fun i h1 h2 => ?_
 simp [zft]
theorem zpA (o : Order) (z : H32) {k : Nat} (h : k < o.xs.length) : (zft o z k).set k (shaH (zcN (o.xs.getD k 0) (o.ss.getD k zb7))) = zft o z (k + 1) := by
 refine List.ext_getElem (by simp [zft]) fun i h1 h2 => ?_
 rw [List.getElem_set]
 by_cases hi : k = i
 ·subst hi; simp [zft]
 ·rw [if_neg hi]
  simp only [zft, List.getElem_map, List.getElem_range]
  by_cases h3 : i < k
  ·rw [if_pos h3, if_pos ow]
  ·rw [if_neg h3, if_neg ow]
theorem zpB {o : Order} (h : zbe o) (hk : o.kind ≠ 3) : zft o (shaH [0]) o.ss.length = (List.range o.xs.length).map (zb8 o) := by
 refine List.map_congr_left fun j hj => ?_
 have hj := List.mem_range.1 hj
 unfold zb8
 rcases h with ⟨h1, _, _, h4, _⟩ | ⟨h1, _, _, h4⟩ | ⟨h1, _⟩
 ·rw [if_pos ow, if_pos h1]
 ·rw [if_neg ow, if_neg (by rw [h1]; decide)]
 ·exact absurd h1 hk
theorem zrt {o : Order} (h : zbe o) (hk : o.kind ≠ 3) : o.ss.length ≤ o.xs.length ∧ idxOk 32 o.xs := by
 rcases h with ⟨h1, _, h3, h4, _⟩ | ⟨h1, _, h3, h4⟩ | ⟨h1, _⟩
 ·exact ⟨by omega, h3⟩
 ·exact ⟨by omega, h3⟩
 ·exact absurd h1 hk
theorem zdv (h : H32) (k : Nat) : (hcs (List.replicate k h)).length = k * 32 := by rw [zah, List.length_replicate]
theorem zlh (h : H32) (j k : Nat) : hcs (List.replicate j h) ++ hcs (List.replicate k h) = hcs (List.replicate (j + k) h) := by rw [← zbg, List.replicate_append_replicate]
theorem zru (h : H32) (rest : List Value) (k j n : Nat) (hr : rest.length = (n - k) * 32) (hj : j ≤ n - k) :
  (hcs (List.replicate k h) ++ rest).take (k * 32) ++ hcs (List.replicate j h) ++ (hcs (List.replicate k h) ++ rest).drop (k * 32 + (hcs (List.replicate j h)).length) = hcs (List.replicate (k + j) h) ++ rest.drop (j * 32) := by
 rw [zdv, List.take_left' (zdv h k), zlh, ← List.drop_drop, List.drop_left' (zdv h k)]
theorem ztx {o : Order} {M : Sm} {k : Nat} (h : o.kind = 1) : runS o M (k + 1) = updR (o.xs.getD k 0) (o.ss.getD k zb7) (delR (o.xs.getD k 0) (runS o M k)) := by rw [runS, zfR, if_pos h]
theorem zty {o : Order} {M : Sm} {k : Nat} (h : ¬ o.kind = 1) : runS o M (k + 1) = delR (o.xs.getD k 0) (runS o M k) := by rw [runS, zfR, if_neg h]
theorem zmj (o : Order) {k : Nat} (h : k < o.xs.length) : ((List.range o.xs.length).map (zb8 o)).getD k zac = zb8 o k := by simp [List.getD, h]
theorem zfu {o : Order} (h : zbe o) (hk : o.kind = 1) : o.ss.length = o.xs.length := by
 rcases h with ⟨_, _, _, h4, _⟩ | ⟨h1, _⟩ | ⟨h1, _⟩
 ·exact h4
 ·omega
 ·omega
def doE (o : Order) (n : Nat) : Nat := if zce o n then 0 else if zbe o then 1 else 2
theorem zg7 {X1 X2 : Option (List (List UInt8))} {n : Nat} (h : ∀ a, X1 = some a → a.length ≤ n) : (zbl X1 X2).length ≤ n := by
 cases X1 with
 | none => exact Nat.zero_le _
 | some a => cases X2 with
  | none => exact Nat.zero_le _
  | some b =>
   show (zipX a b).length ≤ n
   unfold zipX
   split
   ·rw [List.length_zip]; have := h a rfl; omega
   ·exact Nat.zero_le _
theorem zpC {h : Nat} (hh : h ≤ 32) {xs : List Nat} (hx : xs.length ≤ 256) (ls bs ls' bs' : List H32) : (zbl (zbp (h : Int) xs ls bs) (zbp (h : Int) xs ls' bs')).length ≤ 8192 := zg7 fun a ha => by
 unfold zbp at ha
 split at ha
 ·rename_i g
  injection ha with ha
  subst ha
  rw [zkE, if_pos g, Int.toNat_natCast]
  have a := zcz h xs 0 ls bs
  have b : xs.length * h ≤ 256 * 32 := Nat.mul_le_mul hx hh
  omega
 ·cases ha
theorem zj3 {z : Int} {f : Nat} (ls left right ls' left' right' : List H32) : (if ls.length = ls'.length then zbl (zbY z f ls left right) (zbY z f ls' left' right') else []).length ≤ 8192 := by
 split
 ·refine zg7 fun a ha => ?_
  unfold zbY at ha
  split at ha
  ·rename_i g
   injection ha with ha
   subst ha
   obtain ⟨h, rfl, h1, h2, c, _⟩ := zf6 g
   rw [Int.toNat_natCast]
   have a := zg2 (f := f) (h := h) c.n1 ls left right h
   have b : ls.length * h ≤ 256 * 32 := Nat.mul_le_mul h2 h1
   omega
  ·cases ha
 ·exact Nat.zero_le _
theorem zfv {xs : List Nat} (hx : xs.length ≤ 256) (a b : List Item) : (zbl (zbA xs a) (zbA xs b)).length ≤ 256 := zg7 fun t ht => by
 unfold zbA at ht
 split at ht
 ·injection ht with ht
  subst ht
  rw [zc8]; exact hx
 ·cases ht
def zcL (root : H32) (z : Int) (xs : List Nat) (old bs new : List H32) : H32 × Nat := if chkR root z xs old bs ≠ 0 then (zac, chkR root z xs old bs) else zbL z xs new bs
def zfK (root : H32) (h : Nat) (kind : Int) (first : Nat) (xs : List Nat) (its : List Item) (pa pb : List H32) : Prop := its.length = xs.length ∧ inR xs its its.length ∧ if kind = 1 then chkR root (h : Int) xs (za4 xs its its.length) pb = 0 else chkS root (h : Int) first (za4 xs its its.length) pa pb = 0
def zr0 (E : Nat → H32) (root : H32) (n : Nat) (o : Order) (pa pb : List H32) (hh : H32) : Prop := zce o n ∧ ((o.kind ≠ 3 ∧ zcL root (hgt n : Int) o.xs pa pb ((List.range o.xs.length).map (zb8 o)) = (hh, 0)) ∨ (o.kind = 3 ∧ n ≤ o.blocks ∧ hh = zhj E root n o.blocks) ∨ (o.kind = 3 ∧ o.blocks < n ∧ pa.length = 1 ∧ cutR E root (pa.getD 0 zac) pb n o.blocks = (hh, 0)))
theorem zmk {a b : List Pr} (h : ∃ q ∈ a, isF q = true) : plc (a ++ b) < (a ++ b).length := zfZ (h.imp fun q ⟨h1, h2⟩ => ⟨List.mem_append.2 (.inl h1), h2⟩)
theorem zml {a b : List Pr} (h : ∃ q ∈ b, isF q = true) : plc (a ++ b) < (a ++ b).length := zfZ (h.imp fun q ⟨h1, h2⟩ => ⟨List.mem_append.2 (.inr h1), h2⟩)
theorem zpD {E : Nat → H32} {n : Nat} {Y : Sm} {ms : Tm} {c : Nat} (h : TruOk E n Y ms c) {xs : List Nat} (hi : ∀ x ∈ xs, x < 2 ^ hgt n) : (xs.map fun x => getT E ms (0, x)) = za4 xs (xs.map (itS Y)) xs.length := by
 refine List.ext_getElem (by rw [List.length_map, za6]) fun i h1 h2 => ?_
 rw [List.length_map] at h1
 simp only [za4, List.getElem_map, List.getElem_range]
 rw [h.ok.leafv (hi _ (List.getElem_mem h1))]
 simp [gS, List.getD, h1]
theorem zg8 {E : Nat → H32} {n : Nat} {Y : Sm} {ms : Tm} {c : Nat} (h : TruOk E n Y ms c) {xs : List Nat} (hi : idxOk (hgt n) xs) {its : List Item} (hl : its.length = xs.length)
  (hh : (xs.map fun x => getT E ms (0, x)) = za4 xs its its.length) (hn : ¬ zfE (xs.map (itS Y)) its) : ∃ q ∈ zbl (zbA xs (xs.map (itS Y))) (zbA xs its), isF q = true := by
 have hx : ∀ x ∈ xs, x < 4294967296 := fun x hx => Nat.lt_of_lt_of_le (hi.low x hx) (Nat.pow_le_pow_right (by decide) (zb0 h.on))
 rw [zpD h hi.low, hl] at hh
 rw [zgP (by rw [List.length_map]) hx, zgP hl hx]
 show ∃ q ∈ zipX _ _, isF q = true
 rw [zgF (by rw [zc8, zc8])]
 refine zm2 (fun i hi2 => ?_) fun k => hn ⟨by rw [List.length_map, hl], fun i hi2 => k i (by rwa [List.length_map] at hi2)⟩
 have e := congrArg (fun l => l[i]?) hh
 simp only [za4, List.getElem?_map, List.getElem?_range hi2, Option.map_some, Option.some.injEq] at e
 exact e
theorem zpE {root : H32} {z : Int} {xs : List Nat} {ls bs : List H32} (h : chkR root z xs ls bs = 0) : zbL z xs ls bs = (root, 0) := by
 unfold chkR at h
 split at h
 ·exact absurd h (by assumption)
 ·split at h
  ·cases h
  ·rename_i h1 h2
   exact Prod.ext (Decidable.not_not.1 h2) (Decidable.not_not.1 h1)
theorem zpF {root : H32} {z : Int} {f : Nat} {ls l r : List H32} (h : chkS root z f ls l r = 0) : zbM z f ls l r = (root, 0) := by
 unfold chkS at h
 split at h
 ·exact absurd h (by assumption)
 ·split at h
  ·cases h
  ·rename_i h1 h2
   exact Prod.ext (Decidable.not_not.1 h2) (Decidable.not_not.1 h1)
theorem zsN {E : Nat → H32} {n : Nat} {Y : Sm} {ms : Tm} {c : Nat} (h : TruOk E n Y ms c) {xs : List Nat} (hi : idxOk (hgt n) xs) {kind : Int} {first : Nat} {its : List Item} {pa pb : List H32} (hk : kind = 1)
  (hc : zfK (getT E ms (hgt n, 0)) (hgt n) kind first xs its pa pb) (hn : ¬ zfE (xs.map (itS Y)) its) :
  plc (zbl (zbp (hgt n : Int) xs (xs.map (fun x => getT E ms (0, x))) ((zaj (hgt n) xs 0).map (fun a => getT E ms a))) (zbp (hgt n : Int) xs (za4 xs its xs.length) pb) ++ zbl (zbA xs (xs.map (itS Y))) (zbA xs its)) < (zbl (zbp (hgt n : Int) xs (xs.map (fun x => getT E ms (0, x))) ((zaj (hgt n) xs 0).map (fun a => getT E ms a))) (zbp (hgt n : Int) xs (za4 xs its xs.length) pb) ++ zbl (zbA xs (xs.map (itS Y))) (zbA xs its)).length := by
 obtain ⟨hl, _, h3⟩ := hc
 rw [if_pos hk, hl] at h3
 have e1 := zpE h3
 have e2 := zl5 (zb0 h.on) h.ok hi
 by_cases hs : (xs.map fun x => getT E ms (0, x)) = za4 xs its xs.length ∧ ((zaj (hgt n) xs 0).map fun a => getT E ms a) = pb
 ·exact zml (zg8 h hi hl (by rw [hl]; exact hs.1) hn)
 ·refine zmk ?_
  rw [zbp, zbp, if_pos (by rw [e2]), if_pos (by rw [e1])]
  exact zjt (by rw [e2]) (by rw [e1]) (by rw [e1, e2]) hs
theorem zsO {E : Nat → H32} {n : Nat} {Y : Sm} {ms : Tm} {c : Nat} (h : TruOk E n Y ms c) {xs : List Nat} (hi : idxOk (hgt n) xs) {kind : Int} {first m : Nat} {its : List Item} {pa pb : List H32} (hk : ¬ kind = 1) (hx : xs = (List.range m).map (first + ·)) (h1 : 1 ≤ m) (h2 : m ≤ 256) (hf : first + m ≤ 2 ^ hgt n)
  (hc : zfK (getT E ms (hgt n, 0)) (hgt n) kind first xs its pa pb) (hn : ¬ zfE (xs.map (itS Y)) its) {A : List Pr}
  (hA : A = (if (xs.map (fun x => getT E ms (0, x))).length = (za4 xs its xs.length).length then zbl (zbY (hgt n : Int) first (xs.map (fun x => getT E ms (0, x))) ((zaq first (hgt n)).map (fun a => getT E ms a)) ((zan (first + m - 1) (hgt n)).map (fun a => getT E ms a))) (zbY (hgt n : Int) first (za4 xs its xs.length) pa pb) else [])) :
  plc (A ++ zbl (zbA xs (xs.map (itS Y))) (zbA xs its)) < (A ++ zbl (zbA xs (xs.map (itS Y))) (zbA xs its)).length := by
 obtain ⟨hl, _, h3⟩ := hc
 rw [if_neg hk, hl] at h3
 have e1 := zpF h3
 have e2 := zpF (zpu (zb0 h.on) h.ok h1 h2 hf)
 rw [show idxF first m = xs from hx.symm] at e2
 have hll : (xs.map (fun x => getT E ms (0, x))).length = (za4 xs its xs.length).length := by rw [List.length_map, za6]
 by_cases hs : (xs.map fun x => getT E ms (0, x)) = za4 xs its xs.length ∧ ((zaq first (hgt n)).map (fun a => getT E ms a)) = pa ∧ ((zan (first + m - 1) (hgt n)).map (fun a => getT E ms a)) = pb
 ·exact zml (zg8 h hi hl (by rw [hl]; exact hs.1) hn)
 ·refine zmk ?_
  have k := zpt (by rw [e2]) (by rw [e1]) hll (by rw [e1, e2]) hs
  rw [hA, if_pos hll, zbY, zbY, if_pos (by rw [e2]), if_pos (by rw [e1])]
  unfold zrl at k
  rw [if_pos (by rw [e2]), if_pos (by rw [e1])] at k
  exact k
theorem zpG {E : Nat → H32} {root x hh : H32} {ps : List H32} {was blocks : Nat} (h : cutR E root x ps was blocks = (hh, 0)) : (okN was ∧ okN blocks ∧ blocks ≤ was) ∧ ps.length = hgt was ∧ zbt x (blocks - 1) ps = root := by
 by_cases h1 : okN was ∧ okN blocks ∧ blocks ≤ was
 ·by_cases h2 : ps.length = hgt was
  ·by_cases h3 : zbt x (blocks - 1) ps = root
   ·exact ⟨h1, h2, h3⟩
   ·rw [zrM h1 h2 h3] at h; cases congrArg Prod.snd h
  ·rw [zrL h1 h2] at h; cases congrArg Prod.snd h
 ·rw [zrK h1] at h; cases congrArg Prod.snd h
theorem zh3 {E : Nat → H32} (hE : ∀ h, E (h + 1) = zbj (h + 1) (E h) (E h)) (hE0 : E 0 = shaH [0]) {n : Nat} {Y : Sm} {ms ms2 : Tm} {c c2 : Nat} (h : TruOk E n Y ms c) {o : Order} {pa pb : List H32} {hh : H32}
  (ha : zr0 E (getT E ms (hgt n, 0)) n o pa pb hh) (h2 : TruOk E (doN o n) (doS o n Y) ms2 c2) (hne : hh ≠ getT E ms2 (hgt (doN o n), 0)) :
  plc (zfk (fun x => getT E ms (0, x)) (fun a => getT E ms a) (fun i => zcG E ms (hgt n) i) n o 0 pa pb) < (zfk (fun x => getT E ms (0, x)) (fun a => getT E ms a) (fun i => zcG E ms (hgt n) i) n o 0 pa pb).length := by
 obtain ⟨hf, ha⟩ := ha
 have r2 := h2.ok.get _ (zek (hgt (doN o n)))
 rcases ha with ⟨hk, hw⟩ | ⟨hk, hb, hg⟩ | ⟨hk, hb, hp, hc⟩
 ·have en : doN o n = n := by rw [doN, if_neg fun k => hk k.2]
  have eS : doS o n Y = runS o Y o.xs.length := by rw [doS, if_pos hf, if_neg hk]
  have hi := zgM h.on hf hk
  have hck : chkR (getT E ms (hgt n, 0)) (hgt n : Int) o.xs pa pb = 0 := by
   refine Decidable.byContradiction fun k => ?_
   rw [zcL, if_pos k] at hw
   exact k (congrArg Prod.snd hw)
  rw [zcL, if_neg fun k => k hck] at hw
  have e1 := zpE hck
  have e2 := zl5 (zb0 h.on) h.ok hi
  refine zfZ ?_
  rw [zea (by decide) hf hk, zbp, zbp, if_pos (by rw [e2]), if_pos (by rw [e1])]
  refine zjt (by rw [e2]) (by rw [e1]) (by rw [e1, e2]) fun hs => hne ?_
  have e3 := zjH (zb0 h.on) h.ok hi (g := gS (runS o Y o.xs.length)) fun i _ hx => (ztw h.nd hi.rise hx).symm
  rw [ztv h.nd hi.rise, hs.2, hw] at e3
  rw [en, eS] at r2
  rw [en]
  exact (congrArg Prod.fst e3).trans r2.symm
 ·exfalso
  have hb2 := za3 hf hk
  have en : doN o n = o.blocks := by rw [doN, if_pos ⟨hf, hk⟩]
  have eS : doS o n Y = cutS o.blocks Y := by rw [doS, if_pos hf, if_pos hk]
  rw [en, eS, zpx hE0 h] at r2
  refine hne ?_
  rw [en, hg, zoV hE h.ok h.on hb2 hb fun p hp => by rw [hE0]; exact h.low64 p hp]
  exact r2.symm
 ·have hb2 := za3 hf hk
  have en : doN o n = o.blocks := by rw [doN, if_pos ⟨hf, hk⟩]
  have eS : doS o n Y = cutS o.blocks Y := by rw [doS, if_pos hf, if_pos hk]
  obtain ⟨_, c2, c3⟩ := zpG hc
  have ct := zq4 hE h.ok h.on hb2 ow
  obtain ⟨_, _, c4⟩ := zpG ct
  have hpl : (zcG E ms (hgt n) (o.blocks - 1)).length = hgt n := zcS ..
  have hb1 := hb2.1
  have hfp : zdk (o.blocks - 1) (hgt n) := ⟨zb0 h.on, Nat.div_eq_of_lt (by have := zdA h.on; omega)⟩
  refine zfZ ?_
  rw [zfl (by decide) hf (fun k => k hk) hb hp, zkN (by rw [hpl]; exact hfp), zkN (by rw [c2]; exact hfp)]
  refine zoy (by rw [hpl, c2]) (c4.trans c3.symm) fun hs => hne ?_
  rw [← hs.1, ← hs.2, ct] at hc
  rw [en, eS, zpx hE0 h] at r2
  rw [en]
  exact (congrArg Prod.fst hc).symm.trans r2.symm
end Go.E
