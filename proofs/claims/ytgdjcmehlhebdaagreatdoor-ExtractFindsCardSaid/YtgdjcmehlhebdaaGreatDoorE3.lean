/-
  The program logic, sixteenth part: the capacity, growing by a number of empty elements, slices that overlap. The program logic: two operations of a region of which either may come now.
-/
import Derived.Test.YtgdjcmehlhebdaaGreatDoorEQ
import Derived.Lib.Overlaps
import Derived.Laws.AppendOwn
namespace Go.E
set_option linter.unusedVariables false
set_option linter.unusedSectionVars false
variable {C : Ctx} {Q : EQ} {env : Env} {L : List Assn}
variable {dst : Option Tmp} {ty : TypeId} {pos : String} {after : Array Edge} {guard : Option (Nat × Bool)} {x y : Operand} {T T2 e : TypeId} {K : Value → List Assn → Prop}
end Go.E
namespace Go.E
set_option linter.unusedVariables false
set_option linter.unusedSectionVars false
variable {C : Ctx} {Q : EQ} {env : Env} {L : List Assn} {ops : Array Oper} {E : List Nat × List Nat} {F : List Assn} {dn : List Nat}
/-- What it takes to go on with operation k. -/
def OrK (C : Ctx) (ops : Array Oper) (Q : EQ) (E : List Nat × List Nat) (F : List Assn) (dn : List Nat) (env : Env) (L : List Assn) (k : Nat) (o : Oper) : Prop :=
  (has E.1 k = true ∧ OpV C o env L fun v L' => Sub F L' ∧ AWl C ops Q E F (k :: dn) (env.putO o.dst v) L') ∨
  (has E.1 k = false ∧ has E.2 k = true ∧ OpV C o env L fun v L' => Sub L L' ∧ AWl C ops Q E F (k :: dn) (env.putO o.dst v) L')
theorem AWl.or {k1 k2 : Nat} {o1 o2 : Oper} (s : Sub F L) (ho1 : ops[k1]? = some o1) (ho2 : ops[k2]? = some o2) (hk : only2K ops dn k1 k2 = true) (hr : (readyK dn o1 && (!has dn k1) && within ops o1) = true)
    (hd1 : dlt o1.dst C.n = true) (hd2 : dlt o2.dst C.n = true) (hnd1 : isDefer o1 = false) (hnd2 : isDefer o2 = false) (hw1 : wantedE ops env o1 = true) (hw2 : wantedE ops env o2 = true)
    (h1 : OrK C ops Q E F dn env L k1 o1) (h2 : OrK C ops Q E F dn env L k2 o2) : AWl C ops Q E F dn env L := by
  obtain ⟨X, hX⟩ := s
  refine ⟨X, hX, ?_⟩
  have hk0 := hk
  simp only [only2K, Bool.and_eq_true] at hk0
  have hln := blt_lt hk0.1
  have e : ops.size - dn.length = (ops.size - (dn.length + 1)) + 1 := by omega
  simp only [Bool.and_eq_true] at hr
  have hmem := ready_at ho1 hr.1.1 (by simpa using hr.1.2) (within_lt hr.2)
  show AW C ops (SubQ Q) E F (ops.size - dn.length) (listedK ops.size dn) env X
  rw [e]
  have go : ∀ k o, ops[k]? = some o → wantedE ops env o = true → OrK C ops Q E F dn env L k o → (if wantedE ops env o then
        (if has E.1 k then OpV C o env (F ++ X) (fun v L' => ∃ X', Sub (F ++ X') L' ∧ AW C ops (SubQ Q) E F (ops.size - (dn.length + 1)) ((listedK ops.size dn).setIfInBounds k true) (env.putO o.dst v) X')
        else if has E.2 k then OpV C o env (F ++ X) (fun v L' => ∃ X', Sub (F ++ X') L' ∧ Sub X X' ∧ AW C ops (SubQ Q) E F (ops.size - (dn.length + 1)) ((listedK ops.size dn).setIfInBounds k true) (env.putO o.dst v) X')
        else ∃ v, Cal C o env v (F ++ X) ∧ AW C ops (SubQ Q) E F (ops.size - (dn.length + 1)) ((listedK ops.size dn).setIfInBounds k true) (env.putO o.dst v) X)
      else AW C ops (SubQ Q) E F (ops.size - (dn.length + 1)) ((listedK ops.size dn).setIfInBounds k true) (env.putO o.dst undef) X) := by
    rintro k o ho hw (⟨he, h⟩ | ⟨he1, he2, h⟩)
    · rw [if_pos hw, if_pos he, listedK_set]
      exact (h.sub (Sub.of_perm hX.symm)).mono fun v L' ⟨hs, X', hX', hA⟩ => ⟨X', Sub.of_perm hX', hA⟩
    · rw [if_pos hw, if_neg (by simp [he1]), if_pos he2, listedK_set]
      exact (h.sub (Sub.of_perm hX.symm)).mono fun v L' ⟨hs, X', hX', hA⟩ => ⟨X', Sub.of_perm hX', Sub.cancel (((Sub.of_perm hX).trans hs).trans (Sub.of_perm hX'.symm)), hA⟩
  refine ⟨(fun h0 => absurd (h0 ▸ hmem) (by simp)), fun i hi o' ho' => ?_⟩
  rcases only2K_spec hk i hi with rfl | rfl
  · obtain rfl : o' = o1 := by rw [ho1] at ho'; injection ho' with e; exact e.symm
    exact ⟨hd1, hnd1, go _ _ ho1 hw1 h1⟩
  · obtain rfl : o' = o2 := by rw [ho2] at ho'; injection ho' with e; exact e.symm
    exact ⟨hd2, hnd2, go _ _ ho2 hw2 h2⟩
variable {k1 k2 d1 d2 : Nat} {op1 op2 : Op} {ty1 ty2 : TypeId} {pos1 pos2 : String} {after1 after2 : Array Edge}
/-- Both only add to what is known. -/
theorem D.orNN (s : Sub F L) (ho1 : ops[k1]? = some ⟨some d1, op1, ty1, pos1, after1, none⟩) (ho2 : ops[k2]? = some ⟨some d2, op2, ty2, pos2, after2, none⟩) (hk : only2K ops dn k1 k2 = true) (hr : (readyK dn ⟨some d1, op1, ty1, pos1, after1, none⟩ && (!has dn k1) && within ops ⟨some d1, op1, ty1, pos1, after1, none⟩) = true)
    (hd1 : Nat.blt d1 C.n = true) (hd2 : Nat.blt d2 C.n = true) (hnd1 : isDefer ⟨some d1, op1, ty1, pos1, after1, none⟩ = false) (hnd2 : isDefer ⟨some d2, op2, ty2, pos2, after2, none⟩ = false)
    (h1 : OpV C ⟨some d1, op1, ty1, pos1, after1, none⟩ env L fun v L' => Sub L L' ∧ AWl C ops Q E F (k1 :: dn) (env.put d1 v) L')
    (h2 : OpV C ⟨some d2, op2, ty2, pos2, after2, none⟩ env L fun v L' => Sub L L' ∧ AWl C ops Q E F (k2 :: dn) (env.put d2 v) L')
    (e1 : has E.1 k1 = false ∧ has E.2 k1 = true := by exact ⟨rfl, rfl⟩) (e2 : has E.1 k2 = false ∧ has E.2 k2 = true := by exact ⟨rfl, rfl⟩) : AWl C ops Q E F dn env L :=
  AWl.or s ho1 ho2 hk hr hd1 hd2 hnd1 hnd2 rfl rfl (.inr ⟨e1.1, e1.2, h1⟩) (.inr ⟨e2.1, e2.2, h2⟩)
end Go.E
