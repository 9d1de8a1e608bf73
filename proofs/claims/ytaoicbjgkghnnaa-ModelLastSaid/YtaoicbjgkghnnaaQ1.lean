/-
  Acts of the document's volume: plain facts. The last written value: plain facts.
-/
import Derived.Test.YtaoicbjgkghnnaaMP
import Derived.Test.YtaoicbjgkghnnaaM2
namespace Go.E
set_option linter.unusedVariables false
structure ActL where
  k : Int
  A : Option Addr
  xs : List Nat
  c : Nat
  B : Option Addr
  bs : List H32
  d : Nat
  f : Nat
  q : Int
def actL0 : ActL := ⟨0, none, [], 0, none, [], 0, 0, 0⟩
def ActL.flat (a : ActL) : Act5 := ⟨a.k, a.A, a.xs.length, a.c, a.B, a.bs.length, a.d, a.f, a.q⟩
theorem flat_getD (l : List ActL) (k : Nat) (h : k < l.length) : (l.map ActL.flat).getD k act50 = (l.getD k actL0).flat := by simp [List.getD, h]
def ActL.Ok (w : World) (a : ActL) : Prop := a.xs.length ≤ a.c ∧ a.c ≤ 9223372036854775807 ∧ a.q ≤ 9223372036854775807 ∧ Ro w [] (SlA a.A (u64s a.xs)) ∧ Ro w [] (SlA a.B (hcs a.bs))
theorem longB_len {l : List Act5} (h : longB l = false) : l.length ≤ 40 := by
  unfold longB at h
  rw [Bool.or_eq_false_iff] at h
  have := of_decide_eq_false h.1
  omega
theorem act_at {l : List ActL} {k : Nat} {a : ActL} (h : k < l.length) (e : l.getD k actL0 = a) : ∀ j v, (acell a.flat)[j]? = some v → (acs (l.map ActL.flat))[k * 5 + j]? = some v :=
  fun j v hj => acs_at (by rw [List.length_map]; exact h) rfl j v (by rw [flat_getD l k h, e]; exact hj)
theorem layL_len' (xs : List Nat) (bs : List H32) (ls : Ls) (h : xs.length = bs.length) : (layL ls xs bs).length ≤ ls.length + xs.length := by
  have := layL_len xs bs xs.length ls (Nat.le_refl _) (by omega)
  rwa [layL_all ls xs bs xs.length (Nat.le_refl _) (by omega)] at this
theorem cutD_len' (xs : List Nat) (ls : Ls) : (cutD ls xs).length ≤ ls.length := by
  have := cutD_len xs xs.length ls (Nat.le_refl _)
  rwa [List.take_length] at this
theorem asked_256 {xs : List Nat} {n : Nat} (h : asked xs n = 0) : xs.length ≤ 256 := by
  rcases Nat.lt_or_ge 256 xs.length with h0 | h0
  · rw [asked_large h0] at h; cases h
  · exact h0
theorem doD_len (n : Nat) (ls : Ls) (kd : Nat) (xs : List Nat) (bs : List H32) (f : Nat) (q : Int) : (doD n ls kd xs bs f q).2.2.2.length ≤ ls.length + 256 := by
  unfold doD
  split
  · show (writeD n ls xs bs).2.length ≤ _
    unfold writeD
    split
    · exact Nat.le_add_right ..
    · rename_i h
      have := asked_256 (Decidable.not_not.1 h)
      split
      · exact Nat.le_add_right ..
      · rename_i h2
        have := layL_len' xs bs ls (Decidable.not_not.1 h2)
        show (layL ls xs bs).length ≤ _
        omega
  · split
    · show (trimD n ls xs).2.length ≤ _
      unfold trimD
      split
      · exact Nat.le_add_right ..
      · exact Nat.le_trans (cutD_len' xs ls) (Nat.le_add_right ..)
    · split
      · exact Nat.le_add_right ..
      · split
        · exact Nat.le_add_right ..
        · show (resizeD n ls f).2.2.length ≤ _
          unfold resizeD
          split
          · exact Nat.le_add_right ..
          · split
            · exact Nat.le_add_right ..
            · exact Nat.le_trans (List.length_filter_le ..) (Nat.le_add_right ..)
theorem doD_size (n : Nat) (ls : Ls) (kd : Nat) (xs : List Nat) (bs : List H32) (f : Nat) (q : Int) (h : 1 ≤ n ∧ n ≤ 4294967296) : 1 ≤ (doD n ls kd xs bs f q).2.2.1 ∧ (doD n ls kd xs bs f q).2.2.1 ≤ 4294967296 := by
  unfold doD
  split
  · exact h
  · split
    · exact h
    · split
      · exact h
      · split
        · exact h
        · show 1 ≤ (resizeD n ls f).2.1 ∧ (resizeD n ls f).2.1 ≤ _
          unfold resizeD
          split
          · exact h
          · rename_i h1
            split
            · exact h
            · exact Decidable.not_not.1 h1
end Go.E
namespace Go.E
set_option linter.unusedVariables false
/-- After the first j indices of a writing or a trimming. -/
def stepL (kd : Nat) (ms : Ms) (xs : List Nat) (bs : List H32) (j : Nat) : Ms := if kd = 0 then lay ms (xs.take j) (bs.take j) else cut ms (xs.take j)
theorem stepL_zero (kd : Nat) (ms : Ms) (xs : List Nat) (bs : List H32) : stepL kd ms xs bs 0 = ms := by unfold stepL; split <;> simp [lay, cut]
theorem getM_upd (i x : Nat) (b : H32) (ms : Ms) : getM (updR i b ms) x = if x = i then b else getM ms x := by
  unfold getM; rw [look_upd]; by_cases h : x = i <;> simp [h]
theorem getM_del (i x : Nat) {ms : Ms} (h : (keysOf ms).Nodup) : getM (delR i ms) x = if x = i then zeroH else getM ms x := by
  unfold getM; rw [look_del _ _ h]; by_cases h : x = i <;> simp [h]
theorem getM_keep (q x : Nat) (ms : Ms) : getM (keep q ms) x = if q ≤ x then zeroH else getM ms x := by
  have e : keep q ms = ms.filter fun p => decide (p.1 < q) := rfl
  unfold getM; rw [e, look_filter (fun n => decide (n < q)) x ms]
  by_cases h : q ≤ x
  · have : ¬ x < q := by omega
    simp [h, this]
  · have : x < q := by omega
    simp [h, this]
theorem stepL_other {kd : Nat} {ms : Ms} {ls : Ls} {xs : List Nat} {bs : List H32} {j x : Nat} (hr : RelM ms ls) (hj : j < xs.length) (hb : kd = 0 → xs.length = bs.length) (h : xs.getD j 0 ≠ x) : getM (stepL kd ms xs bs (j + 1)) x = getM (stepL kd ms xs bs j) x := by
  unfold stepL
  split
  · rename_i h0
    rw [lay_take ms xs bs j hj (by have := hb h0; omega), getM_upd, if_neg (fun e => h e.symm)]
  · rw [cut_take ms xs j hj, getM_del _ _ (hr.cut _).nodup, if_neg (fun e => h e.symm)]
theorem stepL_write {ms : Ms} {xs : List Nat} {bs : List H32} {j x : Nat} {kd : Nat} (h0 : kd = 0) (hj : j < xs.length) (hb : xs.length = bs.length) (h : xs.getD j 0 = x) : getM (stepL kd ms xs bs (j + 1)) x = bs.getD j zeroH := by
  unfold stepL
  rw [if_pos h0, lay_take ms xs bs j hj (by omega), getM_upd, if_pos h.symm]
theorem stepL_trim {ms : Ms} {ls : Ls} {xs : List Nat} {bs : List H32} {j x : Nat} {kd : Nat} (hr : RelM ms ls) (h0 : ¬ kd = 0) (hj : j < xs.length) (h : xs.getD j 0 = x) : getM (stepL kd ms xs bs (j + 1)) x = zeroH := by
  unfold stepL
  rw [if_neg h0, cut_take ms xs j hj, getM_del _ _ (hr.cut _).nodup, if_pos h.symm]
/-- What an act without an error did. -/
theorem doM_same {n : Nat} {ms : Ms} {kd : Nat} {xs : List Nat} {bs : List H32} {f : Nat} {q : Int} {r1 : Nat} {r2 : List H32} {r3 : Nat} {ms2 : Ms} (hD : doM n ms kd xs bs f q = (r1, r2, r3, ms2)) (h : r1 ≠ 0 ∨ kd = 2 ∨ kd = 3) : n = r3 ∧ ms = ms2 := by
  unfold doM at hD
  split at hD
  · rename_i h0
    injection hD with e1 hD; injection hD with e2 hD; injection hD with e3 e4
    unfold writeM at e1 e4
    split at e4
    · exact ⟨e3, e4⟩
    · rename_i ha
      rw [if_neg ha] at e1
      split at e4
      · exact ⟨e3, e4⟩
      · rename_i hb
        rw [if_neg hb] at e1
        have e1' : 0 = r1 := e1
        omega
  · split at hD
    · injection hD with e1 hD; injection hD with e2 hD; injection hD with e3 e4
      unfold trimM at e1 e4
      split at e4
      · exact ⟨e3, e4⟩
      · rename_i ha
        rw [if_neg ha] at e1
        have e1' : 0 = r1 := e1
        omega
    · split at hD
      · injection hD with e1 hD; injection hD with e2 hD; injection hD with e3 e4
        exact ⟨e3, e4⟩
      · split at hD
        · injection hD with e1 hD; injection hD with e2 hD; injection hD with e3 e4
          exact ⟨e3, e4⟩
        · injection hD with e1 hD; injection hD with e2 hD; injection hD with e3 e4
          unfold resizeM at e1 e3 e4
          split at e4
          · rename_i ha
            rw [if_pos ha] at e3; exact ⟨e3, e4⟩
          · rename_i ha
            rw [if_neg ha] at e1 e3
            split at e4
            · rename_i hb
              rw [if_pos hb] at e3; exact ⟨e3, e4⟩
            · rename_i hb
              rw [if_neg hb] at e1
              have e1' : 0 = r1 := e1
              omega
theorem doM_cut {n : Nat} {ms : Ms} {kd : Nat} {xs : List Nat} {bs : List H32} {f : Nat} {q : Int} {r2 : List H32} {r3 : Nat} {ms2 : Ms} (h : kd = 4) (hD : doM n ms kd xs bs f q = (0, r2, r3, ms2)) : keep f ms = ms2 := by
  subst h
  rw [doM_4 (by decide) (by decide) (by decide) (by decide)] at hD
  injection hD with e1 hD; injection hD with e2 hD; injection hD with e3 e4
  unfold resizeM at e1 e4
  split at e1
  · cases e1
  · rename_i ha
    rw [if_neg ha] at e4
    split at e1
    · cases e1
    · rename_i hb
      rw [if_neg hb] at e4; exact e4
theorem doM_step {n : Nat} {ms : Ms} {kd : Nat} {xs : List Nat} {bs : List H32} {f : Nat} {q : Int} {r2 : List H32} {r3 : Nat} {ms2 : Ms} (h : kd = 0 ∨ kd = 1) (hD : doM n ms kd xs bs f q = (0, r2, r3, ms2)) : xs.length ≤ 256 ∧ (kd = 0 → xs.length = bs.length) ∧ stepL kd ms xs bs xs.length = ms2 := by
  rcases h with rfl | rfl
  · rw [doM_0 rfl] at hD
    injection hD with e1 hD; injection hD with e2 hD; injection hD with e3 e4
    unfold writeM at e1 e4
    split at e1
    · rename_i ha; exact absurd e1 ha
    · rename_i ha
      rw [if_neg ha] at e4
      split at e1
      · cases e1
      · rename_i hb
        rw [if_neg hb] at e4
        refine ⟨asked_256 (Decidable.not_not.1 ha), fun _ => Decidable.not_not.1 hb, ?_⟩
        unfold stepL
        rw [if_pos rfl, lay_all ms xs bs _ (Nat.le_refl _) (by omega)]
        exact e4
  · rw [doM_1 (by decide) rfl] at hD
    injection hD with e1 hD; injection hD with e2 hD; injection hD with e3 e4
    unfold trimM at e1 e4
    split at e1
    · rename_i ha; exact absurd e1 ha
    · rename_i ha
      rw [if_neg ha] at e4
      refine ⟨asked_256 (Decidable.not_not.1 ha), (fun h => by cases h), ?_⟩
      unfold stepL
      rw [if_neg (by decide), cut_all ms xs _ (Nat.le_refl _)]
      exact e4
theorem asked_one (x n : Nat) : asked [x] n = if n ≤ x then 1 else 0 := by
  have hr : Rising [x] := fun i hi => by simp at hi
  unfold asked
  rw [if_neg (by simp), if_neg (by simp), if_pos hr]
  rfl
theorem readM_hi {n x : Nat} {ms : Ms} (h : n ≤ x) : readM n ms [x] = (1, []) := by
  have e := asked_one x n
  rw [if_pos h] at e
  rw [readM_bad (by rw [e]; decide), e]
theorem readM_lo {n x : Nat} {ms : Ms} (h : ¬ n ≤ x) : readM n ms [x] = (0, [getM ms x]) := by
  have e := asked_one x n
  rw [if_neg h] at e
  rw [readM_ok e]; rfl
theorem spanM_hi {n x : Nat} {ms : Ms} (h : n ≤ x) : spanM n ms x 1 = (1, []) := by
  have e := spanned_1 (first := x) (n := n) (many := 1) (by decide) (by decide) (.inl h)
  rw [spanM_bad (by rw [e]; decide), e]
theorem spanM_lo {n x : Nat} {ms : Ms} (h : ¬ n ≤ x) : spanM n ms x 1 = (0, [getM ms x]) := by
  have e := spanned_0 (first := x) (n := n) (many := 1) (by decide) (by decide) h (by show ¬ n - x < 1; omega)
  rw [spanM_ok e]; rfl
theorem RelM.doLen {n : Nat} {ms : Ms} {ls : Ls} (h : RelM ms ls) {kd : Nat} {xs : List Nat} {bs : List H32} {f : Nat} {q : Int} {r1 : Nat} {r2 : List H32} {r3 : Nat} {ms2 : Ms} (hn : 1 ≤ n ∧ n ≤ 4294967296) (hD : doM n ms kd xs bs f q = (r1, r2, r3, ms2)) :
    (∃ ls2, RelM ms2 ls2) ∧ ms2.length ≤ ms.length + 256 ∧ 1 ≤ r3 ∧ r3 ≤ 4294967296 := by
  obtain ⟨_, _, e3, e4⟩ := h.do (n := n) kd xs bs f q
  rw [hD] at e3 e4
  have h1 := doD_len n ls kd xs bs f q
  have h2 := doD_size n ls kd xs bs f q hn
  have h3 := e4.len
  have h4 := h.len
  have e3' : r3 = _ := e3
  rw [← e3'] at h2
  exact ⟨⟨_, e4⟩, by dsimp only at h3; omega, h2⟩
end Go.E
