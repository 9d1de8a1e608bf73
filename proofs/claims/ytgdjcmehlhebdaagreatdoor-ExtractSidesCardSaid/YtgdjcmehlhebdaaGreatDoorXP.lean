/-
  Finds among pairs of texts; unlike openings and unlike paths of one root. Pairs of texts as cells. Where the first find is; pairs of two sources that may fail.
-/
import Derived.Test.YtgdjcmehlhebdaaGreatDoorKB
import Derived.Test.YtgdjcmehlhebdaaGreatDoorP2
import Derived.Test.YtgdjcmehlhebdaaGreatDoorP1
namespace Go.E
set_option linter.unusedVariables false
abbrev Pr := List UInt8 × List UInt8
/-- A find: unlike, with one hash. -/
def isF (p : Pr) : Bool := decide (p.1 ≠ p.2) && decide (shaH p.1 = shaH p.2)
def zipX (a b : List (List UInt8)) : List Pr := if a.length = b.length then a.zip b else []
theorem isF_iff {p : Pr} : isF p = true ↔ p.1 ≠ p.2 ∧ shaH p.1 = shaH p.2 := by simp [isF]
theorem zipX_eq {a b : List (List UInt8)} (h : a.length = b.length) : zipX a b = a.zip b := if_pos h
theorem zipX_ne {a b : List (List UInt8)} (h : a.length ≠ b.length) : zipX a b = [] := if_neg h
/-- The text of a path's step. -/
def stepX (x : H32) (i : Nat) (ps : List H32) (k : Nat) : List UInt8 := if i / 2 ^ k % 2 = 1 then joinT (k + 1) (ps.getD k zeroH) (climbK x i ps k) else joinT (k + 1) (climbK x i ps k) (ps.getD k zeroH)
def pathX (x : H32) (i : Nat) (ps : List H32) : List (List UInt8) := (List.range ps.length).map (stepX x i ps)
theorem mem_zip_app {a b c d : List (List UInt8)} (h : a.length = c.length) {p : Pr} (hp : p ∈ a.zip c ∨ p ∈ b.zip d) : p ∈ (a ++ b).zip (c ++ d) := by
  rw [List.zip_append h]; exact List.mem_append.2 hp
end Go.E
namespace Go.E
set_option linter.unusedVariables false
abbrev Px := Tx × Tx
def tx0 : Tx := (none, 0, [])
def px0 : Px := (tx0, tx0)
def pxL (p : Px) : List Value := [.slice p.1.1 p.1.2.2.length p.1.2.1, .slice p.2.1 p.2.2.2.length p.2.2.1]
def pxT (p : Px) : Pr := (p.1.2.2, p.2.2.2)
theorem pxL_len (ps : List Px) : (ps.flatMap pxL).length = ps.length * 2 := by
  induction ps with
  | nil => rfl
  | cons t ts ih => rw [List.flatMap_cons, List.length_append, ih]; simp [pxL]; omega
theorem pxL_at {ps : List Px} {k i : Nat} (h : k < ps.length) (hi : i = k * 2) : ∀ j v, (pxL (ps.getD k px0))[j]? = some v → (ps.flatMap pxL)[i + j]? = some v := fun j v hj => by
  subst hi
  exact flat_at (encL := pxL) (sz := 2) (fun _ => rfl) ps k _ (getD_some px0 h) j v hj
/-- The texts of these pairs can be read. -/
def PxRo (w : World) (M : List Nat) (ps : List Px) : Prop := ∀ p ∈ ps, Ro w M (SlA p.1.1 (bytesL p.1.2.2)) ∧ Ro w M (SlA p.2.1 (bytesL p.2.2.2))
def zipP (a b : List Tx) : List Px := a.zip b
theorem zipP_T (a b : List Tx) (h : a.length = b.length) : (zipP a b).map pxT = zipX (a.map (fun t => t.2.2)) (b.map (fun t => t.2.2)) := by
  rw [zipX_eq (by rw [List.length_map, List.length_map, h]), zipP, List.zip_map, List.map_congr_left]
  intro p _; rfl
theorem zip_take {a b : List Tx} {k : Nat} (h1 : k < a.length) (h2 : k < b.length) : (a.take (k + 1)).zip (b.take (k + 1)) = (a.take k).zip (b.take k) ++ [(a.getD k tx0, b.getD k tx0)] := by
  rw [List.take_succ_eq_append_getElem h1, List.take_succ_eq_append_getElem h2, List.zip_append (by simp; omega)]
  simp [List.getD, h1, h2]
theorem zip_full (a b : List Tx) {k : Nat} (h1 : a.length ≤ k) (h2 : b.length ≤ k) : (a.take k).zip (b.take k) = zipP a b := by
  rw [List.take_of_length_le h1, List.take_of_length_le h2]; rfl
end Go.E
namespace Go.E
set_option linter.unusedVariables false
def pr0 : Pr := ([], [])
def plc (l : List Pr) : Nat := l.findIdx isF
theorem plc_at {l : List Pr} {k : Nat} (hk : k < l.length) (h1 : ∀ i, i < k → isF (l.getD i pr0) = false) (h2 : isF (l.getD k pr0) = true) : plc l = k := by
  refine (List.findIdx_eq hk).2 ⟨by simpa [List.getD, hk] using h2, fun j hj => ?_⟩
  have := h1 j hj
  simpa [List.getD, Nat.lt_trans hj hk] using this
theorem plc_end {l : List Pr} (h : ∀ i, i < l.length → isF (l.getD i pr0) = false) : plc l = l.length := by
  refine List.findIdx_eq_length.2 fun x hx => ?_
  obtain ⟨i, hi, rfl⟩ := List.mem_iff_getElem.1 hx
  have := h i hi
  simpa [List.getD, hi] using this
theorem plc_is {l : List Pr} (h : plc l < l.length) : isF (l.getD (plc l) pr0) = true := by
  have := List.findIdx_getElem (w := h)
  have e : l.getD (plc l) pr0 = l[plc l] := by simp [List.getD, h]
  rw [e]; exact this
theorem plc_find {l : List Pr} (h : ∃ p ∈ l, isF p = true) : plc l < l.length := List.findIdx_lt_length.2 h
theorem px_getD {ps : List Px} {k : Nat} (h : k < ps.length) : (ps.map pxT).getD k pr0 = pxT (ps.getD k px0) := by simp [List.getD, h]
theorem px_getD2 {ps qs : List Px} (e : ps.map pxT = qs.map pxT) {k : Nat} (h : k < ps.length) : pxT (ps.getD k px0) = pxT (qs.getD k px0) := by
  have hl : ps.length = qs.length := by have := congrArg List.length e; simpa using this
  rw [← px_getD h, ← px_getD (hl ▸ h), e]
theorem px_mem {ps : List Px} {k : Nat} (h : k < ps.length) : ps.getD k px0 ∈ ps := by
  rw [show ps.getD k px0 = ps[k] by simp [List.getD, h]]; exact List.getElem_mem h
/-- What two sources of texts make. -/
def pairX : Option (List (List UInt8)) → Option (List (List UInt8)) → List Pr
  | some a, some b => zipX a b
  | _, _ => []
/-- The pairs of two lists of texts, where they have one length. -/
def zipE (a b : List Tx) : List Px := if a.length = b.length then zipP a b else []
theorem zipE_T (a b : List Tx) : (zipE a b).map pxT = zipX (a.map (fun t => t.2.2)) (b.map (fun t => t.2.2)) := by
  unfold zipE
  split
  · rename_i h; exact zipP_T a b h
  · rename_i h; rw [zipX_ne (by rw [List.length_map, List.length_map]; exact h)]; rfl
theorem zipE_len (a b : List Tx) : (zipE a b).length ≤ a.length := by
  unfold zipE
  split
  · rw [zipP, List.length_zip]; omega
  · exact Nat.zero_le _
theorem zipE_mem {a b : List Tx} {p : Px} (h : p ∈ zipE a b) : p.1 ∈ a ∧ p.2 ∈ b := by
  unfold zipE at h
  split at h
  · exact List.of_mem_zip (a := p.1) (b := p.2) h
  · cases h
theorem zipE_own {a b : List Tx} : ∀ p ∈ zipE a b, txOwn p.1 ∈ a.map txOwn ++ b.map txOwn ∧ txOwn p.2 ∈ a.map txOwn ++ b.map txOwn := fun p hp =>
  ⟨List.mem_append.2 (.inl (List.mem_map_of_mem (zipE_mem hp).1)), List.mem_append.2 (.inr (List.mem_map_of_mem (zipE_mem hp).2))⟩
theorem two_one {A B : Option Addr} {n c m d : Nat} : ∀ u ∈ [Value.slice A n c, Value.slice B m d], u.oneCell' = true := fun u hu => (List.mem_cons.1 hu).elim (fun e => by rw [e]; rfl) (fun h => by rw [List.mem_singleton.1 h]; rfl)
/-- The texts of a path that fits. -/
def pathQ (x : H32) (i : Nat) (ps : List H32) : Option (List (List UInt8)) := if fitsP i ps.length then some (pathX x i ps) else none
theorem pathQ_T {x : H32} {i : Nat} {ps : List H32} (h : fitsP i ps.length) : pathQ x i ps = some (pathX x i ps) := if_pos h
theorem pathQ_F {x : H32} {i : Nat} {ps : List H32} (h : ¬ fitsP i ps.length) : pathQ x i ps = none := if_neg h
def plcI (l : List Pr) : Int := if plc l < l.length then (plc l : Int) else -1
theorem plcI_T {l : List Pr} (h : plc l < l.length) : plcI l = (plc l : Int) := if_pos h
theorem plcI_F {l : List Pr} (h : ¬ plc l < l.length) : plcI l = -1 := if_neg h
/-- Texts that are not too long for the hash. -/
def PxLe (ps : List Px) : Prop := ∀ p ∈ ps, p.1.2.2.length ≤ 70368744177664 ∧ p.2.2.2.length ≤ 70368744177664
theorem getD_ext {α : Type} {xs ys : List α} (d : α) (hl : xs.length = ys.length) (h : ∀ i, i < xs.length → xs.getD i d = ys.getD i d) : xs = ys := by
  refine List.ext_getElem hl fun i h1 h2 => ?_
  have := h i h1
  simpa [List.getD, h1, h2] using this
/-- The texts of an opening that comes to a root. -/
def openQ (z : Int) (xs : List Nat) (ls bs : List H32) : Option (List (List UInt8)) := if (rootR z xs ls bs).2 = 0 then some (textR z xs ls bs) else none
theorem openQ_F {z : Int} {xs : List Nat} {ls bs : List H32} (h : (rootR z xs ls bs).2 ≠ 0) : openQ z xs ls bs = none := if_neg h
theorem openQ_T {height : Nat} (hh : height ≤ 32) {xs : List Nat} {ls bs : List H32} (hi : idxOk height xs) (h2 : ls.length = xs.length) (h3 : bs.length = (spots height xs 0).length) : openQ (height : Int) xs ls bs = some (climbT height xs 0 ls bs) := by
  have h : (rootR (height : Int) xs ls bs).2 = 0 := by rw [rootR_nat hh, rootN_0 hi h2 h3]
  rw [openQ, if_pos h, textR, if_pos h]; rfl
end Go.E
