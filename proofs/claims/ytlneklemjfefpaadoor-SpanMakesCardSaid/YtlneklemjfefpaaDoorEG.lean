/-
  The program logic, seventh part: slices of the function's own, append, literals, iteration over a map, and what is left.
-/
import Derived.Test.YtlneklemjfefpaaDoorEF
namespace Go.E
set_option linter.unusedVariables false
set_option linter.unusedSectionVars false
variable {C : Ctx} {Q : EQ} {env : Env} {L : List Assn} {ops : Array Oper} {rest : List Oper}

/-! ### one assertion turned into another by a step that touches its blocks alone -/
theorem St.step1 {w0 w w' : World} {M : List Nat} {L1 L2 N : List Assn} {A : Assn} (h : St w0 M (L1 ++ A :: L2) w) (k : St w A.fp N w') : St w0 M (L1 ++ N ++ L2) w' := by
  have hp : (L1 ++ A :: L2).Perm ([A] ++ (L1 ++ L2)) := by simp
  have k' : St w (fps [A]) N w' := by simpa [fps] using k
  refine ((h.perm hp).frame k').perm ?_
  rw [← List.append_assoc]
  exact List.Perm.append_right _ List.perm_append_comm
theorem St.of_grown {w w' : World} {row : Option Nat} {A' : Assn} (hg : w.grownBy w' row) (h1 : A'.ok w') (h2 : ∀ b ∈ A'.fp, b < w'.heap.size ∧ (row = some b ∨ w.heap.size ≤ b)) (h3 : A'.fp.Nodup) : St w row.toList [A'] w' := by
  have hf : fps [A'] = A'.fp := by simp [fps]
  refine ⟨hg.os, hg.tape, hg.output, hg.size, fun b hb hM => hg.block b hb (fun e => hM (by rw [← e]; simp)), ⟨?_, ?_, ?_⟩, ?_⟩
  · intro X hX; simp at hX; subst hX; exact h1
  · rw [hf]; exact fun b hb => (h2 b hb).1
  · rw [hf]; exact h3
  · rw [hf]; intro b hb
    rcases (h2 b hb).2 with h | h
    · exact .inl (by rw [h]; simp)
    · exact .inr h

/-! ### a slice of one's own -/
def OwnA (e : TypeId) (sz : Nat) (A : Option Addr) (n c : Nat) (xs : List Value) : Assn where
  fp := (Value.ownBlock (.slice A n c)).toList
  ok w := w.ownsRow 0 e sz (.slice A n c) n xs
  stable w w' h hk := by
    refine ⟨hk.1, ?_⟩
    rcases hk.2 with h1 | ⟨g, cap, cur, hv, hb, hg, r⟩
    · exact .inl h1
    · refine .inr ⟨g, cap, cur, hv, hb, ?_, r⟩
      rw [h g (by rw [hv]; simp [Value.ownBlock])]
      exact hg
theorem OwnA.nil_ok {e : TypeId} {sz : Nat} (w : World) : (OwnA e sz none 0 0 []).ok w := World.ownsRow_nil w 0 e sz
theorem St.ownNil {w0 w : World} {M : List Nat} {L : List Assn} (h : St w0 M L w) (e : TypeId) (sz : Nat) : St w0 M (OwnA e sz none 0 0 [] :: L) w := by
  have hf : fps (OwnA e sz none 0 0 [] :: L) = fps L := by rw [fps_cons]; rfl
  refine ⟨h.os, h.tape, h.output, h.size, h.block, ⟨?_, by rw [hf]; exact h.sat.lt, by rw [hf]; exact h.sat.nodup⟩, by rw [hf]; exact h.own⟩
  intro A hA
  rcases List.mem_cons.1 hA with rfl | hA
  · exact OwnA.nil_ok w
  · exact h.sat.ok A hA
/-- The nil slice is a slice of one's own. -/
theorem TC.ownNil (e : TypeId) (sz : Nat) {c : Code} (h : TC C c Q env (OwnA e sz none 0 0 [] :: L)) : TC C c Q env L := fun a w ha hw => h a w ha (hw.ownNil e sz)
theorem TL.ownNil (e : TypeId) (sz : Nat) {l : List Oper} (h : TL C ops Q l env (OwnA e sz none 0 0 [] :: L)) : TL C ops Q l env L := fun a w ha hw => h a w ha (hw.ownNil e sz)
theorem OwnA.sl {e : TypeId} {sz : Nat} {A : Option Addr} {n c : Nat} {xs : List Value} {w : World} (h : (OwnA e sz A n c xs).ok w) : (SlA A xs).ok w := by
  intro j u hj
  rcases h.2 with ⟨hv, hn⟩ | ⟨g, cap, cur, hv, hb, hg, hnc, hcm, hcs, ht⟩
  · have := h.1
    rw [hn, Nat.zero_mul] at this
    rw [List.length_eq_zero_iff.1 this] at hj; cases hj
  · injection hv with h1 h2 h3
    subst h1
    refine ⟨_, rfl, ?_⟩
    rw [add_cell, cell_of_row w g _ cur e (0, 0) hg]
    rw [← ht, List.getElem?_take] at hj
    split at hj
    · simpa using hj
    · cases hj
theorem Has.own {e : TypeId} {sz : Nat} {A : Option Addr} {n c : Nat} {xs : List Value} (h : Has C L (OwnA e sz A n c xs)) : Has C L (SlA A xs) := fun w hw => OwnA.sl (h w hw)
theorem Has.blk {b : Nat} {T : TypeId} {cs : List Value} (h : Has C L (Blk b T cs)) : Has C L (SlA (some ⟨b, 0, none⟩) cs) := fun w hw j u hj =>
  ⟨_, rfl, by rw [add_cell, cell_of_blk (h w hw)]; simpa using hj⟩
theorem own_cap {e : TypeId} {sz : Nat} {A : Option Addr} {n c : Nat} {xs : List Value} {w : World} (h : (OwnA e sz A n c xs).ok w) : n ≤ c ∧ c ≤ maxLen ∧ xs.length = n * sz := by
  refine ⟨?_, ?_, h.1⟩
  · rcases h.2 with ⟨hv, hn⟩ | ⟨g, cap, cur, hv, hb, hg, hnc, hcm, hcs, ht⟩
    · omega
    · injection hv with _ _ h3; omega
  · rcases h.2 with ⟨hv, hn⟩ | ⟨g, cap, cur, hv, hb, hg, hnc, hcm, hcs, ht⟩
    · injection hv with _ _ h3; subst h3; exact Nat.zero_le _
    · injection hv with _ _ h3; omega

/-- What a type's row of the table says. -/
def elemT (P : Program) (e : TypeId) (sz bytes : Nat) : Prop := ∃ i z, P.info? e = some i ∧ i.zero = some z ∧ i.size = sz ∧ i.bytes = bytes ∧ z.cells.size = sz ∧ 0 < sz
section ops
variable {dst : Option Tmp} {ty : TypeId} {pos : String} {after : Array Edge} {guard : Option (Nat × Bool)} {x y z : Operand} {v : Value} {T e : TypeId} {K : Value → List Assn → Prop}
theorem OpV.appendG {L1 L2 : List Assn} {A B : Option Addr} {n c m c' sz bytes : Nat} {xs news : List Value} (ht : C.P.underlying T = some (.slice e)) (he : elemT C.P e sz bytes)
    (hx : env.ev x = .slice A n c) (hy : env.ev y = .slice B m c') (hs : Has C (L1 ++ OwnA e sz A n c xs :: L2) (SlA B news)) (hl : news.length = m * sz) (h1 : ∀ u ∈ news, u.oneCell' = true)
    (h63 : n + m ≤ maxLen) (hby : (n + m) * bytes ≤ 140737488355328)
    (h : ∀ A' c', K (.slice A' (n + m) c') (L1 ++ OwnA e sz A' (n + m) c' (xs ++ news) :: L2)) :
    OpV C ⟨dst, .call { callee := .builtin .append, args := #[x, y], argTypes := #[T, T] }, ty, pos, after, guard⟩ env (L1 ++ OwnA e sz A n c xs :: L2) K := fun w hw => by
  have hown : w.ownsRow 0 e sz (.slice A n c) n xs := hw.ok (A := OwnA e sz A n c xs) (List.mem_append.2 (.inr (List.mem_cons_self ..)))
  obtain ⟨i, zv, hi, hz, hsz, hb, hzs, hpos⟩ := he
  rcases Nat.eq_zero_or_pos m with hm | hm
  · -- nothing is appended
    subst hm
    have hn : news = [] := List.eq_nil_of_length_eq_zero (by simpa using hl)
    subst hn
    have hcap := own_cap hown
    have hrun : (execOp env.ev ⟨dst, .call { callee := .builtin .append, args := #[x, y], argTypes := #[T, T] }, ty, pos, after, guard⟩).run C.P w = .ok (.value (.slice A n c)) w := by
      cases B with
      | none =>
        cases A <;> simp [execOp, resolve, invoke, builtin, hx, hy, Builtin.append_, run_underlying ht, sizeOf, typeInfo, hi, Builtin.lenOf, Builtin.firstCells, hcap.1, storeCells]
      | some a =>
        cases A <;> simp [execOp, resolve, invoke, builtin, hx, hy, Builtin.append_, run_underlying ht, sizeOf, typeInfo, hi, Builtin.lenOf, Builtin.firstCells, hcap.1, storeCells, loadCells, loadCellsFrom]
    rw [hrun]
    refine ⟨_, hw, ?_⟩
    have := h A c
    simpa using this
  · have hne : news ≠ [] := fun e => by
      rw [e] at hl
      have := Nat.mul_pos hm hpos
      simp at hl; omega
    obtain ⟨u0, hu0⟩ : ∃ u, news[0]? = some u := by cases news with
      | nil => exact absurd rfl hne
      | cons u l => exact ⟨u, rfl⟩
    obtain ⟨a, rfl, _⟩ := hs w hw 0 u0 hu0
    have hcells : ∀ j u, news[j]? = some u → w.cell? (a.add j) = some u := fun j u hj => by
      obtain ⟨a', ea, hc⟩ := hs w hw j u hj
      injection ea with ea
      subst ea; exact hc
    obtain ⟨v', w', hrun, hown', hgrow, _, hat⟩ := run_append_own_at (P := C.P) w 0 T ty e i zv sz bytes ht hi hz hsz hb hzs hpos _ n xs hown a m c' news hl hcells h1 h63 hby (Nat.zero_le _)
    have hform : ∃ A' c', v' = .slice A' (n + m) c' := by
      rcases hown'.2 with ⟨hv, hn⟩ | ⟨g, cap, cur, hv, _⟩
      · exact ⟨none, 0, by rw [hv, hn]⟩
      · exact ⟨_, cap, hv⟩
    obtain ⟨A', c2, rfl⟩ := hform
    have hrun' : (execOp env.ev ⟨dst, .call { callee := .builtin .append, args := #[x, y], argTypes := #[T, T] }, ty, pos, after, guard⟩).run C.P w = .ok (.value (.slice A' (n + m) c2)) w' := by
      simp only [execOp, resolve, invoke, builtin, Sem.run_bind, Sem.run_pure, Result.andThen_ok, List.map_toArray, List.map_cons, List.map_nil, hx, hy, hrun]
    rw [hrun']
    have hst : St w (OwnA e sz A n c xs).fp [OwnA e sz A' (n + m) c2 (xs ++ news)] w' := by
      refine St.of_grown hgrow hown' (fun b hb => ?_) ?_
      · have hb' : Value.ownBlock (.slice A' (n + m) c2) = some b := by simpa [OwnA, Option.mem_toList] using hb
        refine ⟨(hown'.lt b hb').2, ?_⟩
        rcases hat with h2 | h2
        · exact .inl (by rw [← h2]; exact hb')
        · rw [h2] at hb'; injection hb' with hb'; exact .inr (by omega)
      · show (Value.ownBlock (.slice A' (n + m) c2)).toList.Nodup
        cases Value.ownBlock (.slice A' (n + m) c2) <;> simp
    refine ⟨_, ?_, h A' c2⟩
    have := hw.step1 hst
    simpa using this

/-! literals -/
theorem OpV.buildSliceR {parts : Array (Nat × Operand)} {len sz : Nat} {cs : List Value} (ht : C.P.underlying T = some (.slice e)) (hsz : (C.P.info? e).map (·.size) = some sz) (hle : len * sz ≤ 16777216)
    (hz : ∃ z, zero1 C.P e = some z ∧ Instr.fill (fun i => some (i * sz, sz)) ((Array.range (len * sz)).map fun j => (if len * sz = 0 then #[] else z.cells)[j % (if len * sz = 0 then #[] else z.cells).size]!) (parts.map fun (i, x) => (i, env.ev x)).toList = some cs.toArray)
    (h : ∀ b, K (.slice (some ⟨b, 0, none⟩) len len) (Blk b e cs :: L)) : OpV C ⟨dst, .buildSlice T len parts, ty, pos, after, guard⟩ env L K := fun w hw => by
  obtain ⟨zv, hz1, hfill⟩ := hz
  obtain ⟨inf, hin, hs⟩ := Option.map_eq_some_iff.1 hsz
  have hle' : ¬ len * sz > 2 ^ 24 := by simpa using hle
  have hrun : (execOp env.ev ⟨dst, .buildSlice T len parts, ty, pos, after, guard⟩).run C.P w = .ok (.value (.slice (some ⟨w.heap.size, 0, none⟩) len len)) (w.alloc (.cells cs.toArray e)) := by
    simp only [execOp, Instr.buildSlice, Sem.run_bind, run_underlying ht, Result.andThen_ok, sizeOf, typeInfo, run_program, hin, hs, Sem.run_pure, Sem.run_ite, if_neg hle']
    by_cases h0 : len * sz = 0
    · simp only [h0, if_true] at hfill ⊢
      rw [hfill]
      simp [newRow]
    · simp only [h0, if_false, run_zero1 hz1, Result.andThen_ok] at hfill ⊢
      rw [hfill]
      simp [newRow]
  rw [hrun]
  exact ⟨_, hw.alloc _, h w.heap.size⟩
theorem Qt.build {parts : Array (Nat × Operand)} {ps : Array (Nat × Value)} (hp : parts.map (fun (i, x) => (i, env.ev x)) = ps) (h : ∀ w, (Instr.build T ps).run C.P w = .ok v w) : Qt C L ⟨dst, .build T parts, ty, pos, after, guard⟩ env v := fun w _ => by
  simp [execOp, hp, h]
theorem Qt.makeFunc {fn : Fn} {first captured : Array Operand} {fs cs : Array Value} (h1 : first.map env.ev = fs) (h2 : captured.map env.ev = cs) : Qt C L ⟨dst, .makeFunc fn first captured, ty, pos, after, guard⟩ env (.func fn fs cs) := fun w _ => by
  simp [execOp, h1, h2, Instr.makeFunc]

/-! pointers against nil; the type of an error -/
theorem equalIn_pnil {P : Program} {w : World} {t : TypeId} {A : Option Addr} (ht : P.underlying T = some (.pointer t)) (d : Nat) : (Op.equalIn (d + 1) T (.pointer A) (.pointer none)).run P w = .ok A.isNone w := by
  cases A <;> simp [Op.equalIn, run_underlying ht]
theorem run_eqlP {P : Program} {w : World} {t : TypeId} {A : Option Addr} (ht : P.underlying T = some (.pointer t)) : (Op.equal T (.pointer A) (.pointer none)).run P w = .ok A.isNone w := equalIn_pnil ht 9999
theorem ev_pnil : env.ev (.const (.pointer none)) = .pointer none := rfl
theorem Qt.eqpnil {t ty2 : TypeId} {A : Option Addr} (ht : C.P.underlying T = some (.pointer t)) (hx : env.ev x = .pointer A) : Qt C L ⟨dst, .binOp .eql T x (.const (.pointer none)) ty2, ty, pos, after, guard⟩ env (.bool A.isNone) := fun w _ => by
  simp [execOp, hx, ev_pnil, eqGuard, binOp, run_eqlP ht]
theorem Qt.nepnil {t ty2 : TypeId} {A : Option Addr} (ht : C.P.underlying T = some (.pointer t)) (hx : env.ev x = .pointer A) : Qt C L ⟨dst, .binOp .neq T x (.const (.pointer none)) ty2, ty, pos, after, guard⟩ env (.bool (!A.isNone)) := fun w _ => by
  simp [execOp, hx, ev_pnil, eqGuard, binOp, run_eqlP ht]
theorem Qt.assert_yes {xT : TypeId} {d : TypeDesc} (ht : C.P.underlying T = some d) (hd : ∀ ms, d ≠ .interface ms) (hx : env.ev x = .iface T v) : Qt C L ⟨dst, .typeAssert x xT T true, ty, pos, after, guard⟩ env (.tuple #[v, .bool true]) := fun w _ => by
  cases d <;> first | exact absurd rfl (hd _) | simp [execOp, hx, Instr.typeAssert, run_underlying ht]
theorem Qt.min2 {k : IntKind} {m n : Int} {tys : Array TypeId} (hx : env.ev x = .int k m) (hy : env.ev y = .int k n) : Qt C L ⟨dst, .call { callee := .builtin .min, args := #[x, y], argTypes := tys }, ty, pos, after, guard⟩ env (.int k (if n < m then n else m)) := fun w _ => by
  simp [execOp, resolve, invoke, builtin, hx, hy, Builtin.min_, Builtin.min2]

/-! ### going through a map -/
theorem TC.openMap {κ α : Type} [DecidableEq κ] {enc : κ → Value} {encv : α → Value} {ms : List (κ × α)} {b : Nat} {L1 L2 : List Assn} {c : Code}
    (h : ∀ es clock, entsOf enc encv ms es.toList → es.toList.Pairwise (fun x y => x.born < y.born) → (∀ e ∈ es.toList, e.born < clock) → (keysOf ms).Nodup → TC C c Q env (L1 ++ IsObj b (.map es clock) :: L2)) :
    TC C c Q env (L1 ++ MapA b enc encv ms :: L2) := fun a w ha hw => by
  obtain ⟨es, clock, hb, he, hp, hc, hn⟩ := hw.ok (A := MapA b enc encv ms) (List.mem_append.2 (.inr (List.mem_cons_self ..)))
  exact h es clock he hp hc hn a w ha (hw.upd (A' := IsObj b (.map es clock)) rfl rfl rfl rfl rfl (fun _ _ => rfl) hb)
theorem St.closeMap {w0 w : World} {M : List Nat} {κ α : Type} [DecidableEq κ] {enc : κ → Value} {encv : α → Value} {ms : List (κ × α)} {b : Nat} {L1 L2 : List Assn} {es : Array MapEntry} {clock : Nat}
    (h : St w0 M (L1 ++ IsObj b (.map es clock) :: L2) w) (he : entsOf enc encv ms es.toList) (hp : es.toList.Pairwise (fun x y => x.born < y.born)) (hc : ∀ e ∈ es.toList, e.born < clock) (hn : (keysOf ms).Nodup) : St w0 M (L1 ++ MapA b enc encv ms :: L2) w :=
  h.upd (A' := MapA b enc encv ms) rfl rfl rfl rfl rfl (fun _ _ => rfl) ⟨es, clock, h.ok (A := IsObj b (.map es clock)) (List.mem_append.2 (.inr (List.mem_cons_self ..))), he, hp, hc, hn⟩
theorem TC.closeMap {κ α : Type} [DecidableEq κ] {enc : κ → Value} {encv : α → Value} {ms : List (κ × α)} {b : Nat} {L1 L2 : List Assn} {c : Code} {es : Array MapEntry} {clock : Nat}
    (he : entsOf enc encv ms es.toList) (hp : es.toList.Pairwise (fun x y => x.born < y.born)) (hc : ∀ e ∈ es.toList, e.born < clock) (hn : (keysOf ms).Nodup) (h : TC C c Q env (L1 ++ MapA b enc encv ms :: L2)) :
    TC C c Q env (L1 ++ IsObj b (.map es clock) :: L2) := fun a w ha hw => h a w ha (hw.closeMap he hp hc hn)
/-- The iterator i over map m, when the entries ds have come. -/
def IterA (i m clock : Nat) (ds : List MapEntry) : Assn := IsObj i (.mapIter (some m) clock (ds.map (·.born)).toArray clock)
theorem OpV.range {K1 E1 : TypeId} {m clock : Nat} {es : Array MapEntry} (ht : C.P.underlying T = some (.map K1 E1)) (hx : env.ev x = .map (some m)) (h : Has C L (IsObj m (.map es clock)))
    (hk : ∀ b, K (.pointer (some ⟨b, 0, none⟩)) (IterA b m clock [] :: L)) : OpV C ⟨dst, .range T x, ty, pos, after, guard⟩ env L K := fun w hw => by
  have hb : w.heap[m]? = some (.map es clock) := h w hw
  have hrun : (execOp env.ev ⟨dst, .range T x, ty, pos, after, guard⟩).run C.P w = .ok (.value (.pointer (some ⟨w.heap.size, 0, none⟩))) (w.alloc (.mapIter (some m) clock #[] clock)) := by
    simp [execOp, hx, Instr.range, run_underlying ht, run_getObj_map hb]
  rw [hrun]
  exact ⟨_, hw.alloc _, hk w.heap.size⟩
theorem run_getObj_iter {P : Program} {w : World} {b : Nat} {o : Obj} (ho : ∀ c t f, o ≠ .cells c t f) (h : w.heap[b]? = some o) : (getObj b).run P w = .ok o w := by
  simp only [getObj, Sem.run, h]
theorem run_setObj_any {P : Program} {w : World} {b : Nat} {o o' : Obj} (ho : ∀ c t f, o' ≠ .cells c t f) (h : w.heap[b]? = some o') : (setObj b o).run P w = .ok () { w with heap := w.heap.setIfInBounds b o } := by
  simp only [setObj, Sem.run, h]
theorem find_born : ∀ {l : List MapEntry} {e : MapEntry}, l.Pairwise (fun x y => x.born < y.born) → e ∈ l → l.find? (fun x => x.born == e.born) = some e
  | [], _, _, h => by cases h
  | a :: l, e, hp, h => by
    rw [List.pairwise_cons] at hp
    rcases List.mem_cons.1 h with rfl | h
    · simp
    · have := hp.1 e h
      have hne : (a.born == e.born) = false := by simp; omega
      rw [List.find?_cons, hne]
      exact find_born hp.2 h
theorem run_chooseNext {P : Program} (w : World) (n : Nat) (hn : 0 < n) : ∃ k w', (choose (.mapNext n)).run P w = .ok k w' ∧ k < n ∧ w'.heap = w.heap ∧ w'.os = w.os ∧ w'.tape = w.tape ∧ w'.output = w.output := by
  simp only [choose, Sem.run]
  by_cases hf : (Question.mapNext n).forced = true
  · rw [if_pos hf]; exact ⟨0, w, rfl, hn, rfl, rfl, rfl, rfl⟩
  · rw [if_neg hf]; exact ⟨_, _, rfl, Nat.mod_lt _ hn, rfl, rfl, rfl, rfl⟩
theorem OpV.nextG {L1 L2 : List Assn} {i m clock : Nat} {es : Array MapEntry} {ds : List MapEntry} (hx : env.ev x = .pointer (some ⟨i, 0, none⟩)) (h : Has C (L1 ++ IterA i m clock ds :: L2) (IsObj m (.map es clock))) (hc : ∀ e ∈ es.toList, e.born < clock)
    (h0 : (∀ e ∈ es.toList, e.born ∈ ds.map (·.born)) → K (.tuple #[.bool false]) (L1 ++ IterA i m clock ds :: L2))
    (h1 : ∀ e ∈ es.toList, e.born ∉ ds.map (·.born) → K (.tuple #[.bool true, e.key, e.val]) (L1 ++ IterA i m clock (ds ++ [e]) :: L2)) :
    OpV C ⟨dst, .next x false, ty, pos, after, guard⟩ env (L1 ++ IterA i m clock ds :: L2) K := fun w hw => by
  have hb : w.heap[m]? = some (.map es clock) := h w hw
  have hi : w.heap[i]? = some (.mapIter (some m) clock (ds.map (·.born)).toArray clock) := hw.ok (A := IterA i m clock ds) (List.mem_append.2 (.inr (List.mem_cons_self ..)))
  have hgi := run_getObj_iter (P := C.P) (by intro c t f e; cases e) hi
  have hcond : (!(ds.map (·.born)).toArray.isEmpty && !es.isEmpty && es.all fun e => decide (e.born ≥ clock)) = false := by
    cases hes : es.isEmpty with
    | true => simp
    | false =>
      have hne : es.toList ≠ [] := fun e => by simp at e; subst e; simp at hes
      obtain ⟨e0, l0, hl⟩ := List.exists_cons_of_ne_nil hne
      have he0 : e0 ∈ es.toList := by rw [hl]; exact List.mem_cons_self ..
      have hall : (es.all fun e => decide (e.born ≥ clock)) = false := by
        cases hall : (es.all fun e => decide (e.born ≥ clock)) with
        | false => rfl
        | true =>
          have := Array.all_eq_true_iff_forall_mem.1 hall e0 (by simpa using he0)
          have h2 := hc e0 he0
          simp at this; omega
      simp [hall]
  let old : Array MapEntry := (es.filter fun e => !(ds.map (·.born)).toArray.contains e.born).filter fun e => decide (e.born < clock)
  have hnew : ((es.filter fun e => !(ds.map (·.born)).toArray.contains e.born).filter fun e => decide (e.born ≥ clock)) = #[] := by
    rw [Array.filter_eq_empty_iff]
    intro e he
    have : e ∈ es := (Array.mem_filter.1 he).1
    simpa using hc e (by simpa using this)
  have hmem : ∀ e, e ∈ old ↔ e ∈ es.toList ∧ e.born ∉ ds.map (·.born) := by
    intro e
    simp only [old, Array.mem_filter]
    constructor
    · rintro ⟨⟨h1, h2⟩, _⟩
      exact ⟨by simpa using h1, by simpa using h2⟩
    · rintro ⟨h1, h2⟩
      exact ⟨⟨by simpa using h1, by simpa using h2⟩, by simpa using hc e h1⟩
  simp only [execOp, hx, Instr.next, Sem.run_bind, hgi, Result.andThen_ok, run_getObj_map hb, hcond, Bool.false_eq_true, if_false, Sem.run_pure, hnew]
  have hold : (es.filter fun e => !(ds.map (·.born)).toArray.contains e.born).filter (fun e => decide (e.born < clock)) = old := rfl
  rw [hold]
  clear_value old
  cases hoe : old.isEmpty with
  | true =>
    have hz : old = #[] := by simpa using hoe
    subst hz
    obtain ⟨k, w1, hr, hk, hh, ho, ht, hout⟩ := run_chooseNext (P := C.P) w 1 (by omega)
    have hk0 : k = 0 := by omega
    subst hk0
    simp only [if_true, Array.append_empty, Array.map_empty, List.size_toArray, List.length_cons, List.length_nil, Nat.zero_add, hr, Result.andThen_ok]
    refine ⟨_, hw.same ho ht hout hh, h0 fun e he => ?_⟩
    refine Decidable.byContradiction fun hn => ?_
    have := (hmem e).2 ⟨he, hn⟩
    simp at this
  | false =>
    have hpos : 0 < old.size := by
      rcases Nat.eq_zero_or_pos old.size with h | h
      · have : old = #[] := Array.eq_empty_of_size_eq_zero h
        rw [this] at hoe; simp at hoe
      · exact h
    obtain ⟨k, w1, hr, hk, hh, ho, ht, hout⟩ := run_chooseNext (P := C.P) w old.size hpos
    have hget : (old.map some)[k]? = some (some old[k]) := by simp [hk]
    have hin := (hmem old[k]).1 (Array.getElem_mem hk)
    have hi1 : w1.heap[i]? = some (.mapIter (some m) clock (ds.map (·.born)).toArray clock) := by rw [hh]; exact hi
    simp only [Bool.false_eq_true, if_false, Array.append_empty, Array.empty_append, Array.size_map, hr, Result.andThen_ok, hget, Sem.run_bind, run_setObj_any (P := C.P) (by intro c t f e; cases e) hi1, Sem.run_pure]
    have hst := (hw.same ho ht hout hh).setObj (A := IterA i m clock ds) (A' := IterA i m clock (ds ++ [old[k]])) (o := .mapIter (some m) clock ((ds.map (·.born)).toArray.push old[k].born) clock) rfl rfl (lt_of_heap hi1)
      (fun w' hw' => by
        show w'.heap[i]? = _
        rw [hw']
        simp)
    exact ⟨_, hst, h1 _ hin.1 hin.2⟩
theorem OpV.entry {i m clock : Nat} {es : Array MapEntry} {ds : List MapEntry} {e : MapEntry} (hx : env.ev x = .pointer (some ⟨i, 0, none⟩)) (hi : Has C L (IterA i m clock (ds ++ [e]))) (h : Has C L (IsObj m (.map es clock))) (he : e ∈ es.toList) (hp : es.toList.Pairwise (fun x y => x.born < y.born)) :
    Qt C L ⟨dst, .entry x, ty, pos, after, guard⟩ env (.tuple #[e.key, e.val]) := fun w hw => by
  have hb : w.heap[m]? = some (.map es clock) := h w hw
  have hib : w.heap[i]? = some (.mapIter (some m) clock ((ds ++ [e]).map (·.born)).toArray clock) := hi w hw
  have hgi := run_getObj_iter (P := C.P) (by intro c t f e; cases e) hib
  have hback : (((ds ++ [e]).map (·.born)).toArray).back? = some e.born := by simp
  have hfind : es.find? (fun x => x.born == e.born) = some e := by
    rw [← Array.find?_toList]
    exact find_born hp he
  simp only [execOp, hx, Instr.entry, Sem.run_bind, hgi, Result.andThen_ok, hback, run_getObj_map hb, bne_self_eq_false, Bool.false_eq_true, if_false, Sem.run_pure, hfind]
end ops
end Go.E
