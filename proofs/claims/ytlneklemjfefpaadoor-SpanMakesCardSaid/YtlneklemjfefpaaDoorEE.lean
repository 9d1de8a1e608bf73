/-
  The program logic, fifth part: the rules in the form in which a script of steps uses them.
-/
import Derived.Test.YtlneklemjfefpaaDoorED
namespace Go.E
set_option linter.unusedVariables false
variable {C : Ctx} {Q : EQ} {env : Env} {L : List Assn} {ops : Array Oper} {rest : List Oper} {d : Nat} {op : Op} {ty : TypeId} {pos : String} {after : Array Edge} {v : Value} {gd : Nat × Bool}

/-- A quiet operation. -/
theorem S.q (hd : Nat.blt d C.n = true) (hnd : isDefer ⟨some d, op, ty, pos, after, none⟩ = false) (h : Qt C L ⟨some d, op, ty, pos, after, none⟩ env v)
    (k : TL C ops Q rest (env.put d v) L) : TL C ops Q (⟨some d, op, ty, pos, after, none⟩ :: rest) env L := TL.q rfl hd hnd h k
/-- A quiet operation whose guard lets it by. -/
theorem S.qg (hg : wantedE ops env ⟨some d, op, ty, pos, after, some gd⟩ = true) (hd : Nat.blt d C.n = true) (hnd : isDefer ⟨some d, op, ty, pos, after, some gd⟩ = false) (h : Qt C L ⟨some d, op, ty, pos, after, some gd⟩ env v)
    (k : TL C ops Q rest (env.put d v) L) : TL C ops Q (⟨some d, op, ty, pos, after, some gd⟩ :: rest) env L := TL.qg hg hd hnd h k
theorem S.pass (hg : wantedE ops env ⟨some d, op, ty, pos, after, some gd⟩ = false) (hd : Nat.blt d C.n = true)
    (k : TL C ops Q rest (env.put d undef) L) : TL C ops Q (⟨some d, op, ty, pos, after, some gd⟩ :: rest) env L := TL.pass hg hd k
theorem S.passN (hg : wantedE ops env ⟨none, op, ty, pos, after, some gd⟩ = false)
    (k : TL C ops Q rest env L) : TL C ops Q (⟨none, op, ty, pos, after, some gd⟩ :: rest) env L := TL.pass hg rfl k
/-- Any operation. -/
theorem S.opS (hd : Nat.blt d C.n = true) (hnd : isDefer ⟨some d, op, ty, pos, after, none⟩ = false)
    (h : OpV C ⟨some d, op, ty, pos, after, none⟩ env L fun v L' => TL C ops Q rest (env.put d v) L') : TL C ops Q (⟨some d, op, ty, pos, after, none⟩ :: rest) env L := TL.step rfl hd hnd h
theorem S.opg (hg : wantedE ops env ⟨some d, op, ty, pos, after, some gd⟩ = true) (hd : Nat.blt d C.n = true) (hnd : isDefer ⟨some d, op, ty, pos, after, some gd⟩ = false)
    (h : OpV C ⟨some d, op, ty, pos, after, some gd⟩ env L fun v L' => TL C ops Q rest (env.put d v) L') : TL C ops Q (⟨some d, op, ty, pos, after, some gd⟩ :: rest) env L := TL.stepg hg hd hnd h
theorem S.opN (hnd : isDefer ⟨none, op, ty, pos, after, none⟩ = false)
    (h : OpV C ⟨none, op, ty, pos, after, none⟩ env L fun v L' => TL C ops Q rest env L') : TL C ops Q (⟨none, op, ty, pos, after, none⟩ :: rest) env L := TL.step rfl rfl hnd h
theorem S.opNg (hg : wantedE ops env ⟨none, op, ty, pos, after, some gd⟩ = true) (hnd : isDefer ⟨none, op, ty, pos, after, some gd⟩ = false)
    (h : OpV C ⟨none, op, ty, pos, after, some gd⟩ env L fun v L' => TL C ops Q rest env L') : TL C ops Q (⟨none, op, ty, pos, after, some gd⟩ :: rest) env L := TL.stepg hg rfl hnd h
/-! a test: parted, or decided -/
theorem S.dec {p : Prop} {_ : Decidable p} (hd : Nat.blt d C.n = true) (hnd : isDefer ⟨some d, op, ty, pos, after, none⟩ = false) (h : Qt C L ⟨some d, op, ty, pos, after, none⟩ env (.bool (decide p)))
    (k1 : p → TL C ops Q rest (env.put d (.bool true)) L) (k2 : ¬ p → TL C ops Q rest (env.put d (.bool false)) L) : TL C ops Q (⟨some d, op, ty, pos, after, none⟩ :: rest) env L := by
  by_cases hp : p
  · exact TL.q rfl hd hnd (by rw [decide_eq_true hp] at h; exact h) (k1 hp)
  · exact TL.q rfl hd hnd (by rw [decide_eq_false hp] at h; exact h) (k2 hp)
theorem S.decg {p : Prop} {_ : Decidable p} (hg : wantedE ops env ⟨some d, op, ty, pos, after, some gd⟩ = true) (hd : Nat.blt d C.n = true) (hnd : isDefer ⟨some d, op, ty, pos, after, some gd⟩ = false) (h : Qt C L ⟨some d, op, ty, pos, after, some gd⟩ env (.bool (decide p)))
    (k1 : p → TL C ops Q rest (env.put d (.bool true)) L) (k2 : ¬ p → TL C ops Q rest (env.put d (.bool false)) L) : TL C ops Q (⟨some d, op, ty, pos, after, some gd⟩ :: rest) env L := by
  by_cases hp : p
  · exact TL.qg hg hd hnd (by rw [decide_eq_true hp] at h; exact h) (k1 hp)
  · exact TL.qg hg hd hnd (by rw [decide_eq_false hp] at h; exact h) (k2 hp)
theorem Qt.dT {o : Oper} {p : Prop} {_ : Decidable p} (h : Qt C L o env (.bool (decide p))) (hp : p) : Qt C L o env (.bool true) := by rw [decide_eq_true hp] at h; exact h
theorem Qt.dF {o : Oper} {p : Prop} {_ : Decidable p} (h : Qt C L o env (.bool (decide p))) (hp : ¬ p) : Qt C L o env (.bool false) := by rw [decide_eq_false hp] at h; exact h
theorem Qt.not_t {guard : Option (Nat × Bool)} {dst : Option Tmp} {x : Operand} {t : TypeId} (hx : env.ev x = .bool true) : Qt C L ⟨dst, .unOp .not t x, ty, pos, after, guard⟩ env (.bool false) := Qt.not hx
theorem Qt.not_f {guard : Option (Nat × Bool)} {dst : Option Tmp} {x : Operand} {t : TypeId} (hx : env.ev x = .bool false) : Qt C L ⟨dst, .unOp .not t x, ty, pos, after, guard⟩ env (.bool true) := Qt.not hx
theorem S.nil (h : Q .normal env L) : TL C ops Q [] env L := TL.nil h
theorem S.if_t {c : Operand} {x y : Code} (hc : env.ev c = .bool true) (h : TC C x Q env L) : TC C (.cond c x y) Q env L := TC.cond hc h
theorem S.if_f {c : Operand} {x y : Code} (hc : env.ev c = .bool false) (h : TC C y Q env L) : TC C (.cond c x y) Q env L := TC.cond hc h

/-! regions that draw -/
def SubQ (Q : EQ) : EQ := fun x env L => ∃ L0, Sub L0 L ∧ Q x env L0
theorem TC.subQ {c : Code} (h : TC C c (SubQ Q) env L) : TC C c Q env L := fun a w ha hw =>
  wpIn_mono (h a w ha hw) fun _ _ _ ⟨e, L1, h1, h2, L0, h3, h4⟩ => ⟨e, L0, h1, h2.sub h3, h4⟩
/-- The list is told whole; F is what every operation leaves. -/
def AWl (C : Ctx) (ops : Array Oper) (Q : EQ) (E : List Nat × List Nat) (F : List Assn) (dn : List Nat) (env : Env) (L : List Assn) : Prop := ∃ X, L.Perm (F ++ X) ∧ AWk C ops (SubQ Q) E F dn env X
theorem AWl.ofSub {E : List Nat × List Nat} {F : List Assn} {dn : List Nat} (h : ∀ X, L.Perm (F ++ X) → AWk C ops (SubQ Q) E F dn env X) (s : Sub F L) : AWl C ops Q E F dn env L := by
  obtain ⟨X, hX⟩ := s
  exact ⟨X, hX, h X hX⟩
theorem S.draw {id : Nat} {F : List Assn} (E : List Nat × List Nat) (hm : C.P.follows .mixedOrders = true) (s : Sub F L) (h : AWl C ops Q E F [] env L) : TC C (.region id ops true) Q env L := by
  obtain ⟨X, hX, hA⟩ := h
  exact TC.subQ (TC.draw F X hm (Sub.of_perm hX) hA)
variable {E : List Nat × List Nat} {F : List Assn} {dn : List Nat} {k : Nat} {o : Oper}
theorem D.q (ho : ops[k]? = some ⟨some d, op, ty, pos, after, none⟩) (hk : (firstK ops dn k && within ops ⟨some d, op, ty, pos, after, none⟩) = true) (hsel : noSelectB ops = true) (hd : Nat.blt d C.n = true) (hnd : isDefer ⟨some d, op, ty, pos, after, none⟩ = false)
    (hy : Qt C F ⟨some d, op, ty, pos, after, none⟩ env v) (h : AWl C ops Q E F (k :: dn) (env.put d v) L) (hE : has E.1 k = false ∧ has E.2 k = false := by exact ⟨rfl, rfl⟩) : AWl C ops Q E F dn env L := let ⟨X, hX, hA⟩ := h; ⟨X, hX, AWk.q ho hk hsel hd hnd hE rfl hy hA⟩
theorem D.qg (ho : ops[k]? = some ⟨some d, op, ty, pos, after, some gd⟩) (hk : (firstK ops dn k && within ops ⟨some d, op, ty, pos, after, some gd⟩) = true) (hsel : noSelectB ops = true) (hd : Nat.blt d C.n = true) (hnd : isDefer ⟨some d, op, ty, pos, after, some gd⟩ = false)
    (hw : wantedE ops env ⟨some d, op, ty, pos, after, some gd⟩ = true)
    (hy : Qt C F ⟨some d, op, ty, pos, after, some gd⟩ env v) (h : AWl C ops Q E F (k :: dn) (env.put d v) L) (hE : has E.1 k = false ∧ has E.2 k = false := by exact ⟨rfl, rfl⟩) : AWl C ops Q E F dn env L := let ⟨X, hX, hA⟩ := h; ⟨X, hX, AWk.q ho hk hsel hd hnd hE hw hy hA⟩
theorem D.pass (ho : ops[k]? = some ⟨some d, op, ty, pos, after, some gd⟩) (hk : (firstK ops dn k && within ops ⟨some d, op, ty, pos, after, some gd⟩) = true) (hsel : noSelectB ops = true) (hd : Nat.blt d C.n = true) (hnd : isDefer ⟨some d, op, ty, pos, after, some gd⟩ = false)
    (hw : wantedE ops env ⟨some d, op, ty, pos, after, some gd⟩ = false) (h : AWl C ops Q E F (k :: dn) (env.put d undef) L) : AWl C ops Q E F dn env L := let ⟨X, hX, hA⟩ := h; ⟨X, hX, AWk.pass ho hk hsel hd hnd hw hA⟩
theorem D.dec {p : Prop} {_ : Decidable p} (ho : ops[k]? = some ⟨some d, op, ty, pos, after, none⟩) (hk : (firstK ops dn k && within ops ⟨some d, op, ty, pos, after, none⟩) = true) (hsel : noSelectB ops = true) (hd : Nat.blt d C.n = true) (hnd : isDefer ⟨some d, op, ty, pos, after, none⟩ = false)
    (hy : Qt C F ⟨some d, op, ty, pos, after, none⟩ env (.bool (decide p)))
    (k1 : p → AWl C ops Q E F (k :: dn) (env.put d (.bool true)) L) (k2 : ¬ p → AWl C ops Q E F (k :: dn) (env.put d (.bool false)) L) (hE : has E.1 k = false ∧ has E.2 k = false := by exact ⟨rfl, rfl⟩) : AWl C ops Q E F dn env L := by
  by_cases hp : p
  · exact D.q ho hk hsel hd hnd (hy.dT hp) (k1 hp) hE
  · exact D.q ho hk hsel hd hnd (hy.dF hp) (k2 hp) hE
theorem D.decg {p : Prop} {_ : Decidable p} (ho : ops[k]? = some ⟨some d, op, ty, pos, after, some gd⟩) (hk : (firstK ops dn k && within ops ⟨some d, op, ty, pos, after, some gd⟩) = true) (hsel : noSelectB ops = true) (hd : Nat.blt d C.n = true) (hnd : isDefer ⟨some d, op, ty, pos, after, some gd⟩ = false)
    (hw : wantedE ops env ⟨some d, op, ty, pos, after, some gd⟩ = true) (hy : Qt C F ⟨some d, op, ty, pos, after, some gd⟩ env (.bool (decide p)))
    (k1 : p → AWl C ops Q E F (k :: dn) (env.put d (.bool true)) L) (k2 : ¬ p → AWl C ops Q E F (k :: dn) (env.put d (.bool false)) L) (hE : has E.1 k = false ∧ has E.2 k = false := by exact ⟨rfl, rfl⟩) : AWl C ops Q E F dn env L := by
  by_cases hp : p
  · exact D.qg ho hk hsel hd hnd hw (hy.dT hp) (k1 hp) hE
  · exact D.qg ho hk hsel hd hnd hw (hy.dF hp) (k2 hp) hE
/-- A call whose value is the same whenever it comes. -/
theorem D.c (ho : ops[k]? = some ⟨some d, op, ty, pos, after, none⟩) (hk : (firstK ops dn k && within ops ⟨some d, op, ty, pos, after, none⟩) = true) (hsel : noSelectB ops = true) (hd : Nat.blt d C.n = true) (hnd : isDefer ⟨some d, op, ty, pos, after, none⟩ = false)
    (hy : Det C ⟨some d, op, ty, pos, after, none⟩ env v F) (h : AWl C ops Q E F (k :: dn) (env.put d v) L) (hE : has E.1 k = false ∧ has E.2 k = false := by exact ⟨rfl, rfl⟩) : AWl C ops Q E F dn env L := let ⟨X, hX, hA⟩ := h; ⟨X, hX, AWk.c0 ho hk hsel hd hnd hE rfl hy hA⟩
theorem D.cg (ho : ops[k]? = some ⟨some d, op, ty, pos, after, some gd⟩) (hk : (firstK ops dn k && within ops ⟨some d, op, ty, pos, after, some gd⟩) = true) (hsel : noSelectB ops = true) (hd : Nat.blt d C.n = true) (hnd : isDefer ⟨some d, op, ty, pos, after, some gd⟩ = false)
    (hw : wantedE ops env ⟨some d, op, ty, pos, after, some gd⟩ = true) (hy : Det C ⟨some d, op, ty, pos, after, some gd⟩ env v F) (h : AWl C ops Q E F (k :: dn) (env.put d v) L) (hE : has E.1 k = false ∧ has E.2 k = false := by exact ⟨rfl, rfl⟩) : AWl C ops Q E F dn env L := let ⟨X, hX, hA⟩ := h; ⟨X, hX, AWk.c0 ho hk hsel hd hnd hE hw hy hA⟩
/-- The only operation that may come now. -/
theorem D.opW (s : Sub F L) (ho : ops[k]? = some o) (hk : onlyK ops dn k = true) (hr : (readyK dn o && within ops o) = true) (hd : dlt o.dst C.n = true) (hnd : isDefer o = false) (hw : wantedE ops env o = true)
    (h : OpV C o env L fun v L' => Sub F L' ∧ AWl C ops Q E F (k :: dn) (env.putO o.dst v) L') (hE : has E.1 k = true := by rfl) : AWl C ops Q E F dn env L := by
  obtain ⟨X, hX⟩ := s
  refine ⟨X, hX, AWk.only ho hE hk hr hd hnd hw ((h.sub (Sub.of_perm hX.symm)).mono fun v L' ⟨hs, X', hX', hA⟩ => ⟨X', Sub.of_perm hX', hA⟩)⟩
theorem D.opS (s : Sub F L) (ho : ops[k]? = some ⟨some d, op, ty, pos, after, none⟩) (hk : onlyK ops dn k = true) (hr : (readyK dn ⟨some d, op, ty, pos, after, none⟩ && within ops ⟨some d, op, ty, pos, after, none⟩) = true) (hd : Nat.blt d C.n = true) (hnd : isDefer ⟨some d, op, ty, pos, after, none⟩ = false)
    (h : OpV C ⟨some d, op, ty, pos, after, none⟩ env L fun v L' => Sub F L' ∧ AWl C ops Q E F (k :: dn) (env.put d v) L') (hE : has E.1 k = true := by rfl) : AWl C ops Q E F dn env L := D.opW s ho hk hr hd hnd rfl h hE
theorem D.opg (s : Sub F L) (ho : ops[k]? = some ⟨some d, op, ty, pos, after, some gd⟩) (hk : onlyK ops dn k = true) (hr : (readyK dn ⟨some d, op, ty, pos, after, some gd⟩ && within ops ⟨some d, op, ty, pos, after, some gd⟩) = true) (hd : Nat.blt d C.n = true) (hnd : isDefer ⟨some d, op, ty, pos, after, some gd⟩ = false)
    (hw : wantedE ops env ⟨some d, op, ty, pos, after, some gd⟩ = true) (h : OpV C ⟨some d, op, ty, pos, after, some gd⟩ env L fun v L' => Sub F L' ∧ AWl C ops Q E F (k :: dn) (env.put d v) L') (hE : has E.1 k = true := by rfl) : AWl C ops Q E F dn env L := D.opW s ho hk hr hd hnd hw h hE
theorem D.opN (s : Sub F L) (ho : ops[k]? = some ⟨none, op, ty, pos, after, none⟩) (hk : onlyK ops dn k = true) (hr : (readyK dn ⟨none, op, ty, pos, after, none⟩ && within ops ⟨none, op, ty, pos, after, none⟩) = true) (hnd : isDefer ⟨none, op, ty, pos, after, none⟩ = false)
    (h : OpV C ⟨none, op, ty, pos, after, none⟩ env L fun v L' => Sub F L' ∧ AWl C ops Q E F (k :: dn) env L') (hE : has E.1 k = true := by rfl) : AWl C ops Q E F dn env L := D.opW s ho hk hr rfl hnd rfl h hE
/-! operations that only add to what is known -/
theorem Sub.append {F X Y : List Assn} (h : Sub X Y) : Sub (F ++ X) (F ++ Y) := by
  obtain ⟨R, hR⟩ := h
  exact ⟨R, by rw [List.append_assoc]; exact hR.append_left F⟩
theorem Sub.cancel {F X Y : List Assn} (h : Sub (F ++ X) (F ++ Y)) : Sub X Y := by
  obtain ⟨R, hR⟩ := h
  rw [List.append_assoc] at hR
  exact ⟨R, (List.perm_append_left_iff F).1 hR⟩
theorem D.newW (ho : ops[k]? = some o) (hk : onlyK ops dn k = true) (hr : (readyK dn o && within ops o) = true) (hd : dlt o.dst C.n = true) (hnd : isDefer o = false) (hw : wantedE ops env o = true)
    (s : Sub F L) (h : OpV C o env L fun v L' => Sub L L' ∧ AWl C ops Q E F (k :: dn) (env.putO o.dst v) L') (hE1 : has E.1 k = false := by rfl) (hE : has E.2 k = true := by rfl) : AWl C ops Q E F dn env L := by
  obtain ⟨X, hX⟩ := s
  refine ⟨X, hX, AWk.grow ho hE1 hE hk hr hd hnd hw ((h.sub (Sub.of_perm hX.symm)).mono fun v L' ⟨hs, X', hX', hA⟩ => ⟨X', Sub.of_perm hX', ?_, hA⟩)⟩
  exact Sub.cancel (((Sub.of_perm hX).trans hs).trans (Sub.of_perm hX'.symm))
theorem D.nS (s : Sub F L) (ho : ops[k]? = some ⟨some d, op, ty, pos, after, none⟩) (hk : onlyK ops dn k = true) (hr : (readyK dn ⟨some d, op, ty, pos, after, none⟩ && within ops ⟨some d, op, ty, pos, after, none⟩) = true) (hd : Nat.blt d C.n = true) (hnd : isDefer ⟨some d, op, ty, pos, after, none⟩ = false)
    (h : OpV C ⟨some d, op, ty, pos, after, none⟩ env L fun v L' => Sub L L' ∧ AWl C ops Q E F (k :: dn) (env.put d v) L') (hE1 : has E.1 k = false := by rfl) (hE : has E.2 k = true := by rfl) : AWl C ops Q E F dn env L := D.newW ho hk hr hd hnd rfl s h hE1 hE
theorem D.ng (s : Sub F L) (ho : ops[k]? = some ⟨some d, op, ty, pos, after, some gd⟩) (hk : onlyK ops dn k = true) (hr : (readyK dn ⟨some d, op, ty, pos, after, some gd⟩ && within ops ⟨some d, op, ty, pos, after, some gd⟩) = true) (hd : Nat.blt d C.n = true) (hnd : isDefer ⟨some d, op, ty, pos, after, some gd⟩ = false)
    (hw : wantedE ops env ⟨some d, op, ty, pos, after, some gd⟩ = true) (h : OpV C ⟨some d, op, ty, pos, after, some gd⟩ env L fun v L' => Sub L L' ∧ AWl C ops Q E F (k :: dn) (env.put d v) L') (hE1 : has E.1 k = false := by rfl) (hE : has E.2 k = true := by rfl) : AWl C ops Q E F dn env L := D.newW ho hk hr hd hnd hw s h hE1 hE
/-! nothing that may come before it changes what is known: all that is known may be used -/
theorem D.qX (ho : ops[k]? = some ⟨some d, op, ty, pos, after, none⟩) (hk : (firstK ops dn k && within ops ⟨some d, op, ty, pos, after, none⟩) = true) (hsel : noSelectB ops = true) (hc : calmK ops E dn k = true) (hd : Nat.blt d C.n = true) (hnd : isDefer ⟨some d, op, ty, pos, after, none⟩ = false)
    (hy : Qt C L ⟨some d, op, ty, pos, after, none⟩ env v) (h : AWl C ops Q E F (k :: dn) (env.put d v) L) (hE : has E.1 k = false ∧ has E.2 k = false := by exact ⟨rfl, rfl⟩) : AWl C ops Q E F dn env L :=
  let ⟨X, hX, hA⟩ := h; ⟨X, hX, AWk.calm ho hk (noSelectB_spec hsel) hd hnd hE hc rfl (fun Y hY => (hy.wk ((Sub.of_perm hX.symm).trans (Sub.append hY))).cal) hA⟩
theorem D.qgX (ho : ops[k]? = some ⟨some d, op, ty, pos, after, some gd⟩) (hk : (firstK ops dn k && within ops ⟨some d, op, ty, pos, after, some gd⟩) = true) (hsel : noSelectB ops = true) (hc : calmK ops E dn k = true) (hd : Nat.blt d C.n = true) (hnd : isDefer ⟨some d, op, ty, pos, after, some gd⟩ = false)
    (hw : wantedE ops env ⟨some d, op, ty, pos, after, some gd⟩ = true)
    (hy : Qt C L ⟨some d, op, ty, pos, after, some gd⟩ env v) (h : AWl C ops Q E F (k :: dn) (env.put d v) L) (hE : has E.1 k = false ∧ has E.2 k = false := by exact ⟨rfl, rfl⟩) : AWl C ops Q E F dn env L :=
  let ⟨X, hX, hA⟩ := h; ⟨X, hX, AWk.calm ho hk (noSelectB_spec hsel) hd hnd hE hc hw (fun Y hY => (hy.wk ((Sub.of_perm hX.symm).trans (Sub.append hY))).cal) hA⟩
theorem D.decX {p : Prop} {_ : Decidable p} (ho : ops[k]? = some ⟨some d, op, ty, pos, after, none⟩) (hk : (firstK ops dn k && within ops ⟨some d, op, ty, pos, after, none⟩) = true) (hsel : noSelectB ops = true) (hc : calmK ops E dn k = true) (hd : Nat.blt d C.n = true) (hnd : isDefer ⟨some d, op, ty, pos, after, none⟩ = false)
    (hy : Qt C L ⟨some d, op, ty, pos, after, none⟩ env (.bool (decide p)))
    (k1 : p → AWl C ops Q E F (k :: dn) (env.put d (.bool true)) L) (k2 : ¬ p → AWl C ops Q E F (k :: dn) (env.put d (.bool false)) L) (hE : has E.1 k = false ∧ has E.2 k = false := by exact ⟨rfl, rfl⟩) : AWl C ops Q E F dn env L := by
  by_cases hp : p
  · exact D.qX ho hk hsel hc hd hnd (hy.dT hp) (k1 hp) hE
  · exact D.qX ho hk hsel hc hd hnd (hy.dF hp) (k2 hp) hE
theorem D.decgX {p : Prop} {_ : Decidable p} (ho : ops[k]? = some ⟨some d, op, ty, pos, after, some gd⟩) (hk : (firstK ops dn k && within ops ⟨some d, op, ty, pos, after, some gd⟩) = true) (hsel : noSelectB ops = true) (hc : calmK ops E dn k = true) (hd : Nat.blt d C.n = true) (hnd : isDefer ⟨some d, op, ty, pos, after, some gd⟩ = false)
    (hw : wantedE ops env ⟨some d, op, ty, pos, after, some gd⟩ = true) (hy : Qt C L ⟨some d, op, ty, pos, after, some gd⟩ env (.bool (decide p)))
    (k1 : p → AWl C ops Q E F (k :: dn) (env.put d (.bool true)) L) (k2 : ¬ p → AWl C ops Q E F (k :: dn) (env.put d (.bool false)) L) (hE : has E.1 k = false ∧ has E.2 k = false := by exact ⟨rfl, rfl⟩) : AWl C ops Q E F dn env L := by
  by_cases hp : p
  · exact D.qgX ho hk hsel hc hd hnd hw (hy.dT hp) (k1 hp) hE
  · exact D.qgX ho hk hsel hc hd hnd hw (hy.dF hp) (k2 hp) hE
theorem D.cX (ho : ops[k]? = some ⟨some d, op, ty, pos, after, none⟩) (hk : (firstK ops dn k && within ops ⟨some d, op, ty, pos, after, none⟩) = true) (hsel : noSelectB ops = true) (hc : calmK ops E dn k = true) (hd : Nat.blt d C.n = true) (hnd : isDefer ⟨some d, op, ty, pos, after, none⟩ = false)
    (hy : ∀ L', Sub L L' → Cal C ⟨some d, op, ty, pos, after, none⟩ env v L') (h : AWl C ops Q E F (k :: dn) (env.put d v) L) (hE : has E.1 k = false ∧ has E.2 k = false := by exact ⟨rfl, rfl⟩) : AWl C ops Q E F dn env L :=
  let ⟨X, hX, hA⟩ := h; ⟨X, hX, AWk.calm ho hk (noSelectB_spec hsel) hd hnd hE hc rfl (fun Y hY => hy _ ((Sub.of_perm hX.symm).trans (Sub.append hY))) hA⟩
theorem D.cgX (ho : ops[k]? = some ⟨some d, op, ty, pos, after, some gd⟩) (hk : (firstK ops dn k && within ops ⟨some d, op, ty, pos, after, some gd⟩) = true) (hsel : noSelectB ops = true) (hc : calmK ops E dn k = true) (hd : Nat.blt d C.n = true) (hnd : isDefer ⟨some d, op, ty, pos, after, some gd⟩ = false)
    (hw : wantedE ops env ⟨some d, op, ty, pos, after, some gd⟩ = true) (hy : ∀ L', Sub L L' → Cal C ⟨some d, op, ty, pos, after, some gd⟩ env v L') (h : AWl C ops Q E F (k :: dn) (env.put d v) L) (hE : has E.1 k = false ∧ has E.2 k = false := by exact ⟨rfl, rfl⟩) : AWl C ops Q E F dn env L :=
  let ⟨X, hX, hA⟩ := h; ⟨X, hX, AWk.calm ho hk (noSelectB_spec hsel) hd hnd hE hc hw (fun Y hY => hy _ ((Sub.of_perm hX.symm).trans (Sub.append hY))) hA⟩
theorem SubQ.perm {env : Env} {X Y : List Assn} (p : X.Perm Y) (h : SubQ Q .normal env X) : SubQ Q .normal env Y := by
  obtain ⟨L0, h1, h2⟩ := h
  exact ⟨L0, h1.trans (Sub.of_perm p.symm), h2⟩
/-- Two new blocks, in whichever order. -/
theorem D.two {k1 k2 d1 d2 : Nat} {T1 T2 ty1 ty2 : TypeId} {pos1 pos2 : String} {after1 after2 : Array Edge} {zs1 zs2 : List Value} (s : Sub F L) (ho1 : ops[k1]? = some ⟨some d1, .alloc T1, ty1, pos1, after1, none⟩) (ho2 : ops[k2]? = some ⟨some d2, .alloc T2, ty2, pos2, after2, none⟩)
    (hk : only2K ops dn k1 k2 = true) (hk1 : onlyK ops (k1 :: dn) k2 = true) (hk2 : onlyK ops (k2 :: dn) k1 = true) (hr1 : (readyK (k2 :: dn) ⟨some d1, .alloc T1, ty1, pos1, after1, none⟩ && within ops ⟨some d1, .alloc T1, ty1, pos1, after1, none⟩) = true) (hr2 : (readyK (k1 :: dn) ⟨some d2, .alloc T2, ty2, pos2, after2, none⟩ && within ops ⟨some d2, .alloc T2, ty2, pos2, after2, none⟩) = true)
    (hr : (readyK dn ⟨some d1, .alloc T1, ty1, pos1, after1, none⟩ && (!has dn k1)) = true) (hd1 : Nat.blt d1 C.n = true) (hd2 : Nat.blt d2 C.n = true) (hne : Nat.beq d1 d2 = false) (hz1 : zeroOf C.P T1 = some zs1) (hz2 : zeroOf C.P T2 = some zs2)
    (h : ∀ b1 b2, AWl C ops Q E F (k2 :: k1 :: dn) ((env.put d1 (.pointer (some ⟨b1, 0, none⟩))).put d2 (.pointer (some ⟨b2, 0, none⟩))) (Blk b2 T2 zs2 :: Blk b1 T1 zs1 :: L))
    (hE1 : has E.1 k1 = false ∧ has E.2 k1 = true := by exact ⟨rfl, rfl⟩) (hE2 : has E.1 k2 = false ∧ has E.2 k2 = true := by exact ⟨rfl, rfl⟩) : AWl C ops Q E F dn env L := by
  obtain ⟨X, hX⟩ := s
  have hne' : d1 ≠ d2 := fun e => by rw [e, Nat.beq_refl] at hne; cases hne
  refine ⟨X, hX, AWk.two ho1 ho2 (fun _ _ _ p h => SubQ.perm p h) hk hk1 hk2 hr1 hr2 hr hd1 hd2 rfl rfl (fun _ => rfl) (fun _ => rfl) (fun d hd hd' => ?_) hE1 hE2 (fun _ => News.alloc hz1) (fun _ => News.alloc hz2) ?_⟩
  · injection hd with hd; injection hd' with hd'; exact hne' (hd.trans hd'.symm)
  · rintro v1 n1 v2 n2 ⟨b1, rfl, rfl⟩ ⟨b2, rfl, rfl⟩
    obtain ⟨Y, hY, hA⟩ := h b1 b2
    refine AW.perm _ _ _ _ _ ?_ hA (fun _ _ _ p h => SubQ.perm p h)
    have h1 : (F ++ Y).Perm (F ++ ([Blk b2 T2 zs2] ++ ([Blk b1 T1 zs1] ++ X))) := by
      refine hY.symm.trans ?_
      refine (((hX.cons _).cons _)).trans ?_
      exact List.perm_append_comm_assoc [Blk b2 T2 zs2, Blk b1 T1 zs1] F X
    exact (List.perm_append_left_iff F).1 h1
theorem D.done (s : Sub F L) (hk : allK ops dn = true) (h : Q .normal env L) : AWl C ops Q E F dn env L := by
  obtain ⟨X, hX⟩ := s
  exact ⟨X, hX, AWk.done hk ⟨L, Sub.of_perm hX.symm, h⟩⟩
theorem thenN {C : Ctx} {y : Code} (h : TC C y Q env L) : thenQ C y Q .normal env L := h
theorem TC.at {c : Code} {L' : List Assn} (h : TC C c Q env L') (e : L' = L) : TC C c Q env L := e ▸ h

end Go.E