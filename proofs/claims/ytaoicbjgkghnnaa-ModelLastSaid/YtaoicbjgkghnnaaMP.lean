/-
  Plain words: the document's volume, a rising list of written blocks, and what its calls make of it.
-/
import Derived.Test.YtaoicbjgkghnnaaMZ
import Derived.Test.YtaoicbjgkghnnaaP3
namespace Go.E
set_option linter.unusedVariables false
/-- The program's map and the document's list hold the same. -/
structure RelM (ms : Ms) (ls : Ls) : Prop where
  nodup : (keysOf ms).Nodup
  rise : ls.Pairwise (fun a b => a.1 < b.1)
  same : ∀ j, look j ms = look j ls
theorem RelM.nil : RelM [] [] := ⟨List.nodup_nil, List.Pairwise.nil, fun _ => rfl⟩
def outL (i : Nat) (ls : Ls) : Ls := ls.filter fun x => !(x.1 == i)
def withL (i : Nat) (b : H32) (ls : Ls) : Ls := loL i (outL i ls) ++ [(i, b)] ++ hiL i (outL i ls)
theorem outL_rise {i : Nat} {ls : Ls} (h : ls.Pairwise (fun a b => a.1 < b.1)) : (outL i ls).Pairwise (fun a b => a.1 < b.1) := h.sublist List.filter_sublist
theorem look_out (i j : Nat) (ls : Ls) : look j (outL i ls) = if j = i then none else look j ls := by
  rw [outL, look_filter (fun n => !(n == i)) j ls]
  by_cases h : j = i <;> simp [h]
theorem RelM.del {ms : Ms} {ls : Ls} (h : RelM ms ls) (i : Nat) : RelM (delR i ms) (outL i ls) :=
  ⟨nodup_del i h.nodup, outL_rise h.rise, fun j => by rw [look_del i j h.nodup, look_out, h.same]⟩
theorem look_lo (i j : Nat) (ls : Ls) : look j (loL i ls) = if j < i then look j ls else none := by
  have e : loL i ls = ls.filter fun x => decide (x.1 < i) := rfl
  rw [e, look_filter (fun n => decide (n < i)) j ls]
  by_cases h : j < i <;> simp [h]
theorem look_hi (i j : Nat) (ls : Ls) : look j (hiL i ls) = if i < j then look j ls else none := by
  have e : hiL i ls = ls.filter fun x => decide (i < x.1) := rfl
  rw [e, look_filter (fun n => decide (i < n)) j ls]
  by_cases h : i < j <;> simp [h]
theorem withL_rise {i : Nat} {b : H32} {ls : Ls} (h : ls.Pairwise (fun a b => a.1 < b.1)) : (withL i b ls).Pairwise (fun a b => a.1 < b.1) := by
  have h' := outL_rise (i := i) h
  refine List.pairwise_append.2 ⟨List.pairwise_append.2 ⟨h'.sublist List.filter_sublist, List.pairwise_singleton _ _, fun x hx y hy => ?_⟩, h'.sublist List.filter_sublist, fun x hx y hy => ?_⟩
  · rw [List.mem_singleton.1 hy]
    have := (List.mem_filter.1 hx).2
    simpa using this
  · have h2 := (List.mem_filter.1 hy).2
    have h3 : i < y.1 := by simpa using h2
    rcases List.mem_append.1 hx with hx | hx
    · have h4 := (List.mem_filter.1 hx).2
      have h5 : x.1 < i := by simpa using h4
      omega
    · rw [List.mem_singleton.1 hx]; exact h3
theorem look_with (i j : Nat) (b : H32) (ls : Ls) : look j (withL i b ls) = if j = i then some b else look j ls := by
  rw [withL, look_append, look_append, look_cons, look_nil, look_lo, look_hi, look_out]
  by_cases h : j = i
  · subst h; simp
  · rcases Nat.lt_or_gt_of_ne h with h1 | h1
    · simp [h, h1, show ¬ i < j by omega]
    · simp [h, h1, show ¬ j < i by omega]
theorem RelM.upd {ms : Ms} {ls : Ls} (h : RelM ms ls) (i : Nat) (b : H32) : RelM (updR i b ms) (withL i b ls) :=
  ⟨nodup_upd i b h.nodup, withL_rise h.rise, fun j => by rw [look_upd, look_with, h.same]⟩
theorem RelM.low {ms : Ms} {ls : Ls} (h : RelM ms ls) (q : Nat) : RelM (keep q ms) (loL q ls) := by
  refine ⟨keys_filter _ h.nodup, h.rise.sublist List.filter_sublist, fun j => ?_⟩
  have e : keep q ms = ms.filter fun p => decide (p.1 < q) := rfl
  rw [e, look_filter (fun n => decide (n < q)) j ms, look_lo, ← h.same]
  by_cases hq : j < q <;> simp [hq]
theorem rise_nodup {ls : Ls} (h : ls.Pairwise (fun a b => a.1 < b.1)) : (ls.map (·.1)).Nodup := List.pairwise_map.2 (h.imp fun {a b} hab => Nat.ne_of_lt hab)
theorem RelM.keys {ms : Ms} {ls : Ls} (h : RelM ms ls) : (keysOf ms).Perm (ls.map (·.1)) := by
  refine (List.perm_ext_iff_of_nodup h.nodup (rise_nodup h.rise)).2 fun x => ?_
  have h1 : x ∈ keysOf ms ↔ look x ms ≠ none := by rw [ne_eq, look_none]; exact Decidable.not_not.symm
  have h2 : x ∈ ls.map (·.1) ↔ look x ls ≠ none := by
    have : look x ls = none ↔ x ∉ keysOf ls := look_none
    rw [ne_eq, this]; exact Decidable.not_not.symm
  rw [h1, h2, h.same]
theorem RelM.len {ms : Ms} {ls : Ls} (h : RelM ms ls) : ms.length = ls.length := by
  have := h.keys.length_eq
  rwa [keys_len, List.length_map] at this
theorem RelM.srt {ms : Ms} {ls : Ls} (h : RelM ms ls) : srt (keysOf ms) = ls.map (·.1) := by
  have h1 := (srt_perm (keysOf ms)).trans h.keys
  exact h1.eq_of_pairwise (fun a b _ _ h1 h2 => Nat.le_antisymm h1 h2) (srt_le _) (List.pairwise_map.2 (h.rise.imp fun {a b} hab => Nat.le_of_lt hab))
theorem beyond_low (q : Nat) (ms : Ms) : beyond q ms + (keep q ms).length = ms.length := by
  unfold beyond keep
  induction ms with
  | nil => rfl
  | cons p ms ih =>
    simp only [List.filter_cons]
    by_cases h : p.1 < q
    · have : ¬ q ≤ p.1 := by omega
      simp only [h, this, decide_true, decide_false, if_true, Bool.false_eq_true, if_false, List.length_cons]; omega
    · have h2 : q ≤ p.1 := by omega
      simp only [h, h2, decide_true, decide_false, if_true, Bool.false_eq_true, if_false, List.length_cons]; omega
theorem RelM.beyond {ms : Ms} {ls : Ls} (h : RelM ms ls) (q : Nat) : Go.E.beyond q ms = ls.length - (loL q ls).length := by
  have h1 := beyond_low q ms
  have h2 := (h.low q).len
  have h3 := h.len
  omega
theorem RelM.get {ms : Ms} {ls : Ls} (h : RelM ms ls) (j : Nat) : getM ms j = (look j ls).getD zeroH := by rw [getM, h.same]
theorem lohi_len (i : Nat) : ∀ ls : Ls, (loL i ls).length + (hiL i ls).length ≤ ls.length
  | [] => Nat.le_refl _
  | x :: ls => by
    have h := lohi_len i ls
    unfold loL hiL at h ⊢
    simp only [List.filter_cons, List.length_cons]
    by_cases h1 : x.1 < i
    · have h2 : ¬ i < x.1 := by omega
      simp only [h1, h2, decide_true, decide_false, if_true, Bool.false_eq_true, if_false, List.length_cons]; omega
    · by_cases h2 : i < x.1
      · simp only [h1, h2, decide_true, decide_false, if_true, Bool.false_eq_true, if_false, List.length_cons]; omega
      · simp only [h1, h2, decide_false, Bool.false_eq_true, if_false]; omega
theorem withL_len (i : Nat) (b : H32) (ls : Ls) : (withL i b ls).length ≤ ls.length + 1 := by
  have h1 := lohi_len i (outL i ls)
  have h2 : (outL i ls).length ≤ ls.length := List.length_filter_le ..
  rw [withL, List.length_append, List.length_append, List.length_singleton]; omega
/-- The document's calls. -/
def layL (ls : Ls) (xs : List Nat) (bs : List H32) : Ls := (xs.zip bs).foldl (fun m p => withL p.1 p.2 m) ls
def cutD (ls : Ls) (xs : List Nat) : Ls := xs.foldl (fun m x => outL x m) ls
theorem layL_take (ls : Ls) (xs : List Nat) (bs : List H32) (k : Nat) (h1 : k < xs.length) (h2 : k < bs.length) :
    layL ls (xs.take (k + 1)) (bs.take (k + 1)) = withL (xs.getD k 0) (bs.getD k zeroH) (layL ls (xs.take k) (bs.take k)) := by
  unfold layL
  have hz : (xs.take (k + 1)).zip (bs.take (k + 1)) = (xs.take k).zip (bs.take k) ++ [(xs.getD k 0, bs.getD k zeroH)] := by
    rw [List.take_succ_eq_append_getElem h1, List.take_succ_eq_append_getElem h2, List.zip_append (by simp; omega)]
    simp [List.getD, h1, h2]
  rw [hz, List.foldl_append]
  rfl
theorem layL_all (ls : Ls) (xs : List Nat) (bs : List H32) (k : Nat) (h1 : xs.length ≤ k) (h2 : bs.length ≤ k) : layL ls (xs.take k) (bs.take k) = layL ls xs bs := by
  rw [List.take_of_length_le h1, List.take_of_length_le h2]
theorem cutD_take (ls : Ls) (xs : List Nat) (k : Nat) (h : k < xs.length) : cutD ls (xs.take (k + 1)) = outL (xs.getD k 0) (cutD ls (xs.take k)) := by
  unfold cutD
  rw [List.take_succ_eq_append_getElem h, List.foldl_append]
  simp [List.getD, h]
theorem layL_len (xs : List Nat) (bs : List H32) : ∀ (k : Nat) (ls : Ls), k ≤ xs.length → k ≤ bs.length → (layL ls (xs.take k) (bs.take k)).length ≤ ls.length + k
  | 0, ls, _, _ => by simp [layL]
  | k + 1, ls, h1, h2 => by
    have ih := layL_len xs bs k ls (by omega) (by omega)
    rw [layL_take ls xs bs k (by omega) (by omega)]
    have := withL_len (xs.getD k 0) (bs.getD k zeroH) (layL ls (xs.take k) (bs.take k))
    omega
theorem cutD_len (xs : List Nat) : ∀ (k : Nat) (ls : Ls), k ≤ xs.length → (cutD ls (xs.take k)).length ≤ ls.length
  | 0, ls, _ => by simp [cutD]
  | k + 1, ls, h1 => by
    have ih := cutD_len xs k ls (by omega)
    rw [cutD_take ls xs k (by omega)]
    exact Nat.le_trans (List.length_filter_le ..) ih
theorem RelM.lay {ms : Ms} {ls : Ls} (h : RelM ms ls) (xs : List Nat) (bs : List H32) : RelM (Go.E.lay ms xs bs) (layL ls xs bs) := by
  unfold Go.E.lay layL
  generalize xs.zip bs = ps
  induction ps generalizing ms ls with
  | nil => exact h
  | cons p ps ih => exact ih (h.upd p.1 p.2)
theorem RelM.cut {ms : Ms} {ls : Ls} (h : RelM ms ls) (xs : List Nat) : RelM (Go.E.cut ms xs) (cutD ls xs) := by
  unfold Go.E.cut cutD
  induction xs generalizing ms ls with
  | nil => exact h
  | cons x xs ih => exact ih (h.del x)
noncomputable def writeD (n : Nat) (ls : Ls) (xs : List Nat) (bs : List H32) : Nat × Ls := if asked xs n ≠ 0 then (asked xs n, ls) else if xs.length ≠ bs.length then (2, ls) else (0, layL ls xs bs)
noncomputable def trimD (n : Nat) (ls : Ls) (xs : List Nat) : Nat × Ls := if asked xs n ≠ 0 then (asked xs n, ls) else (0, cutD ls xs)
def getD' (ls : Ls) (j : Nat) : H32 := (look j ls).getD zeroH
noncomputable def readD (n : Nat) (ls : Ls) (xs : List Nat) : Nat × List H32 := if asked xs n ≠ 0 then (asked xs n, []) else (0, xs.map (getD' ls))
def spanLD (ls : Ls) (first k : Nat) : List H32 := (List.range k).map fun i => getD' ls (first + i)
def spanD (n : Nat) (ls : Ls) (first : Nat) (many : Int) : Nat × List H32 := if spanned first many n ≠ 0 then (spanned first many n, []) else (0, spanLD ls first many.toNat)
def resizeD (n : Nat) (ls : Ls) (q : Nat) : Nat × Nat × Ls := if ¬ (1 ≤ q ∧ q ≤ 4294967296) then (1, n, ls) else if 256 < ls.length - (loL q ls).length then (3, n, ls) else (0, q, loL q ls)
/-- What one act does to a volume. -/
noncomputable def doD (n : Nat) (ls : Ls) (kd : Nat) (xs : List Nat) (bs : List H32) (f : Nat) (q : Int) : Nat × List H32 × Nat × Ls :=
  if kd = 0 then ((writeD n ls xs bs).1, [], n, (writeD n ls xs bs).2)
  else if kd = 1 then ((trimD n ls xs).1, [], n, (trimD n ls xs).2)
  else if kd = 2 then ((readD n ls xs).1, (readD n ls xs).2, n, ls)
  else if kd = 3 then ((spanD n ls f q).1, (spanD n ls f q).2, n, ls)
  else ((resizeD n ls f).1, [], (resizeD n ls f).2.1, (resizeD n ls f).2.2)
theorem getD_eq {ms : Ms} {ls : Ls} (h : RelM ms ls) : getM ms = getD' ls := funext fun j => h.get j
/-- Both do the same. -/
theorem RelM.do {n : Nat} {ms : Ms} {ls : Ls} (h : RelM ms ls) (kd : Nat) (xs : List Nat) (bs : List H32) (f : Nat) (q : Int) :
    (doM n ms kd xs bs f q).1 = (doD n ls kd xs bs f q).1 ∧ (doM n ms kd xs bs f q).2.1 = (doD n ls kd xs bs f q).2.1 ∧ (doM n ms kd xs bs f q).2.2.1 = (doD n ls kd xs bs f q).2.2.1 ∧ RelM (doM n ms kd xs bs f q).2.2.2 (doD n ls kd xs bs f q).2.2.2 := by
  unfold doM doD
  by_cases h0 : kd = 0
  · simp only [if_pos h0]
    unfold writeM writeD
    by_cases a : asked xs n ≠ 0
    · simp only [if_pos a]; exact ⟨trivial, trivial, trivial, h⟩
    · simp only [if_neg a]
      by_cases b : xs.length ≠ bs.length
      · simp only [if_pos b]; exact ⟨trivial, trivial, trivial, h⟩
      · simp only [if_neg b]; exact ⟨trivial, trivial, trivial, h.lay xs bs⟩
  · simp only [if_neg h0]
    by_cases h1 : kd = 1
    · simp only [if_pos h1]
      unfold trimM trimD
      by_cases a : asked xs n ≠ 0
      · simp only [if_pos a]; exact ⟨trivial, trivial, trivial, h⟩
      · simp only [if_neg a]; exact ⟨trivial, trivial, trivial, h.cut xs⟩
    · simp only [if_neg h1]
      by_cases h2 : kd = 2
      · simp only [if_pos h2]
        unfold readM readD
        rw [getD_eq h]
        refine ⟨?_, ?_, ?_, h⟩ <;> first | rfl | trivial
      · simp only [if_neg h2]
        by_cases h3 : kd = 3
        · simp only [if_pos h3]
          unfold spanM spanD spanL spanLD
          rw [getD_eq h]
          refine ⟨?_, ?_, ?_, h⟩ <;> first | rfl | trivial
        · simp only [if_neg h3]
          unfold resizeM resizeD
          rw [h.beyond f]
          by_cases a : ¬ (1 ≤ f ∧ f ≤ 4294967296)
          · simp only [if_pos a]; exact ⟨trivial, trivial, trivial, h⟩
          · simp only [if_neg a]
            by_cases b : 256 < ls.length - (loL f ls).length
            · simp only [if_pos b]; exact ⟨trivial, trivial, trivial, h⟩
            · simp only [if_neg b]; exact ⟨trivial, trivial, trivial, h.low f⟩
end Go.E
