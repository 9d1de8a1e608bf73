/-
  The program logic, sixth part: maps. A map is told by a list of pairs, in the order in which they were laid.
-/
import Derived.Test.YtlneklemjfefpaaDoorEE
namespace Go.E
set_option linter.unusedVariables false
set_option linter.unusedSectionVars false

/-- What is asked of a type of keys. -/
structure KeyLaw {κ : Type} [DecidableEq κ] (P : Program) (K : TypeId) (enc : κ → Value) : Prop where
  desc : ∃ d, P.underlying K = some d ∧ ((∀ a b, Instr.sameNow d (enc a) (enc b) = some (decide (a = b))) ∨ (∀ a b, Instr.sameNow d (enc a) (enc b) = none))
  eq : ∀ a b w, (Op.equal K (enc a) (enc b)).run P w = .ok (decide (a = b)) w
  check : ∀ e a w, (Instr.checkKey e 10000 K (enc a)).run P w = .ok () w
  bits : ∀ a, Instr.sameBits 10000 (enc a) (enc a) = true

section
variable {κ α : Type} [DecidableEq κ] {P : Program} {K : TypeId} {enc : κ → Value} {encv : α → Value}

def entsOf (enc : κ → Value) (encv : α → Value) (ms : List (κ × α)) (es : List MapEntry) : Prop :=
  es.map (fun e => (e.key, e.val)) = ms.map fun p => (enc p.1, encv p.2)
theorem entsOf.cons {p : κ × α} {ms : List (κ × α)} {es : List MapEntry} (h : entsOf enc encv (p :: ms) es) :
    ∃ e es', es = e :: es' ∧ e.key = enc p.1 ∧ e.val = encv p.2 ∧ entsOf enc encv ms es' := by
  cases es with
  | nil => simp [entsOf] at h
  | cons e es' =>
    simp only [entsOf, List.map_cons, List.cons.injEq, Prod.mk.injEq] at h
    exact ⟨e, es', rfl, h.1.1, h.1.2, h.2⟩
theorem entsOf.nil {es : List MapEntry} (h : entsOf enc encv ([] : List (κ × α)) es) : es = [] := by simpa [entsOf] using h
theorem entsOf.length {ms : List (κ × α)} {es : List MapEntry} (h : entsOf enc encv ms es) : es.length = ms.length := by
  have := congrArg List.length h; simpa using this

/-- Where a key stands, and what stands there. -/
def findAt (k : κ) : List (κ × α) → Nat → Option (Nat × α)
  | [], _ => none
  | p :: ms, i => if k = p.1 then some (i, p.2) else findAt k ms (i + 1)
theorem findNow_some {d : TypeDesc} (hd : ∀ a b, Instr.sameNow d (enc a) (enc b) = some (decide (a = b))) (k : κ) : ∀ (ms : List (κ × α)) (es : List MapEntry) (i : Nat), entsOf enc encv ms es →
    Instr.findNow d (enc k) es i = some ((findAt k ms i).map fun p => (p.1, encv p.2))
  | [], es, i, h => by rw [h.nil]; rfl
  | p :: ms, es, i, h => by
    obtain ⟨e, es', rfl, h1, h2, h3⟩ := h.cons
    simp only [Instr.findNow, h1, hd, findAt]
    by_cases hk : k = p.1
    · simp [hk, h2]
    · simp only [hk, decide_false, if_false]; exact findNow_some hd k ms es' (i + 1) h3
theorem findAsking_run (law : KeyLaw P K enc) (k : κ) (w : World) : ∀ (ms : List (κ × α)) (es : List MapEntry) (i : Nat), entsOf enc encv ms es →
    (Instr.findAsking K (enc k) es i).run P w = .ok ((findAt k ms i).map fun p => (p.1, encv p.2)) w
  | [], es, i, h => by rw [h.nil]; rfl
  | p :: ms, es, i, h => by
    obtain ⟨e, es', rfl, h1, h2, h3⟩ := h.cons
    simp only [Instr.findAsking, h1, Sem.run_bind, law.eq, Result.andThen_ok, findAt]
    by_cases hk : k = p.1
    · simp [hk, h2]
    · have ih := findAsking_run law k w ms es' (i + 1) h3
      simp [hk, ih]
theorem findNow_none {d : TypeDesc} (hd : ∀ a b, Instr.sameNow d (enc a) (enc b) = none) (k : κ) (ms : List (κ × α)) (es : List MapEntry) (h : entsOf enc encv ms es) :
    Instr.findNow d (enc k) es 0 = none ∨ (ms = [] ∧ Instr.findNow d (enc k) es 0 = some none) := by
  cases ms with
  | nil => rw [h.nil]; exact .inr ⟨rfl, rfl⟩
  | cons p ms =>
    obtain ⟨e, es', rfl, h1, _, _⟩ := h.cons
    refine .inl ?_
    simp [Instr.findNow, h1, hd]
theorem findKey_run (law : KeyLaw P K enc) (k : κ) (w : World) (ms : List (κ × α)) (es : List MapEntry) (h : entsOf enc encv ms es) :
    (Instr.findKey K (enc k) es).run P w = .ok ((findAt k ms 0).map fun p => (p.1, encv p.2)) w := by
  obtain ⟨d, hu, hd⟩ := law.desc
  unfold Instr.findKey
  simp only [Sem.run_bind, run_underlying hu, Result.andThen_ok]
  rcases hd with hd | hd
  · rw [findNow_some hd k ms es 0 h]; rfl
  · rcases findNow_none hd k ms es h with h1 | ⟨rfl, h1⟩
    · rw [h1]; exact findAsking_run law k w ms es 0 h
    · rw [h1]; rfl

/-- The value of a key. -/
def look (k : κ) (ms : List (κ × α)) : Option α := (findAt k ms 0).map (·.2)
theorem findAt_shift (k : κ) : ∀ (ms : List (κ × α)) (i : Nat), findAt k ms (i + 1) = (findAt k ms i).map fun p => (p.1 + 1, p.2)
  | [], _ => rfl
  | p :: ms, i => by
    simp only [findAt]
    split
    · rfl
    · exact findAt_shift k ms (i + 1)
theorem look_nil (k : κ) : look k ([] : List (κ × α)) = none := rfl
theorem look_cons (k : κ) (p : κ × α) (ms : List (κ × α)) : look k (p :: ms) = if k = p.1 then some p.2 else look k ms := by
  unfold look
  simp only [findAt]
  split
  · rfl
  · rw [findAt_shift]; simp [Function.comp_def]
theorem look_append (k : κ) : ∀ (a b : List (κ × α)), look k (a ++ b) = (look k a).or (look k b)
  | [], b => by simp [look_nil]
  | p :: a, b => by
    rw [List.cons_append, look_cons, look_cons, look_append k a b]
    split <;> simp
/-- With a pair laid: in its place, or at the end. -/
def upd (k : κ) (a : α) (ms : List (κ × α)) : List (κ × α) := match findAt k ms 0 with
  | some (i, _) => ms.modify i fun p => (p.1, a)
  | none => ms ++ [(k, a)]
def del (k : κ) (ms : List (κ × α)) : List (κ × α) := match findAt k ms 0 with
  | some (i, _) => ms.eraseIdx i
  | none => ms
def updR (k : κ) (a : α) : List (κ × α) → List (κ × α)
  | [] => [(k, a)]
  | p :: ms => if k = p.1 then (p.1, a) :: ms else p :: updR k a ms
def delR (k : κ) : List (κ × α) → List (κ × α)
  | [] => []
  | p :: ms => if k = p.1 then ms else p :: delR k ms
theorem upd_eq (k : κ) (a : α) : ∀ ms : List (κ × α), upd k a ms = updR k a ms
  | [] => rfl
  | p :: ms => by
    have ih := upd_eq k a ms
    unfold upd at ih ⊢
    simp only [findAt, updR]
    by_cases hk : k = p.1
    · simp [hk]
    · rw [if_neg hk, if_neg hk, findAt_shift]
      cases hf : findAt k ms 0 with
      | none => rw [hf] at ih; simpa using ih
      | some q => rw [hf] at ih; simpa using ih
theorem del_eq (k : κ) : ∀ ms : List (κ × α), del k ms = delR k ms
  | [] => rfl
  | p :: ms => by
    have ih := del_eq k ms
    unfold del at ih ⊢
    simp only [findAt, delR]
    by_cases hk : k = p.1
    · simp [hk]
    · rw [if_neg hk, if_neg hk, findAt_shift]
      cases hf : findAt k ms 0 with
      | none => rw [hf] at ih; simpa using ih
      | some q => rw [hf] at ih; simpa using ih
theorem look_upd (k k' : κ) (a : α) : ∀ ms : List (κ × α), look k' (updR k a ms) = if k' = k then some a else look k' ms
  | [] => by simp only [updR, look_cons, look_nil]
  | p :: ms => by
    simp only [updR]
    by_cases hk : k = p.1
    · rw [if_pos hk, look_cons, look_cons]
      by_cases h2 : k' = p.1
      · simp [h2, hk]
      · simp [h2, hk]
    · rw [if_neg hk, look_cons, look_cons, look_upd k k' a ms]
      by_cases h2 : k' = p.1
      · have : ¬ k' = k := fun e => hk (e ▸ h2)
        have h3 : ¬ p.1 = k := fun e => hk e.symm
        simp [h2, h3]
      · simp [h2]
def keysOf (ms : List (κ × α)) : List κ := ms.map (·.1)
theorem look_none {k : κ} : ∀ {ms : List (κ × α)}, look k ms = none ↔ k ∉ keysOf ms
  | [] => by simp [look_nil, keysOf]
  | p :: ms => by
    rw [look_cons]
    have ih := look_none (k := k) (ms := ms)
    simp only [keysOf] at ih
    by_cases h : k = p.1 <;> simp [h, keysOf, ih]
theorem keys_upd (k : κ) (a : α) : ∀ ms : List (κ × α), keysOf (updR k a ms) = if k ∈ keysOf ms then keysOf ms else keysOf ms ++ [k]
  | [] => by simp [updR, keysOf]
  | p :: ms => by
    have ih := keys_upd k a ms
    simp only [keysOf] at ih
    simp only [updR]
    by_cases hk : k = p.1
    · simp [hk, keysOf]
    · rw [if_neg hk]
      simp only [keysOf, List.map_cons, ih, List.mem_cons, hk, false_or]
      split <;> rename_i hh <;> simp [hh]
theorem nodup_upd (k : κ) (a : α) {ms : List (κ × α)} (h : (keysOf ms).Nodup) : (keysOf (updR k a ms)).Nodup := by
  rw [keys_upd]
  split
  · exact h
  · rename_i hn
    exact List.nodup_append.2 ⟨h, by simp, fun x hx y hy e => by simp at hy; subst hy e; exact hn hx⟩
theorem keys_del (k : κ) : ∀ {ms : List (κ × α)}, (keysOf ms).Nodup → keysOf (delR k ms) = (keysOf ms).filter (fun x => decide (x ≠ k))
  | [], _ => rfl
  | p :: ms, h => by
    simp only [keysOf, List.map_cons, List.nodup_cons] at h
    have ih := keys_del k (ms := ms) h.2
    simp only [keysOf] at ih
    simp only [delR]
    by_cases hk : k = p.1
    · subst hk
      rw [if_pos rfl]
      simp only [keysOf, List.map_cons, ne_eq, not_true_eq_false, decide_false, Bool.false_eq_true, not_false_eq_true, List.filter_cons_of_neg]
      rw [List.filter_eq_self.2]
      intro x hx
      simp only [decide_eq_true_eq]
      exact fun e => h.1 (e ▸ hx)
    · rw [if_neg hk]
      have hk' : p.1 ≠ k := fun e => hk e.symm
      simp [keysOf, hk', ih]
theorem look_del (k k' : κ) : ∀ {ms : List (κ × α)}, (keysOf ms).Nodup → look k' (delR k ms) = if k' = k then none else look k' ms
  | [], _ => by simp [delR, look_nil]
  | p :: ms, h => by
    simp only [keysOf, List.map_cons, List.nodup_cons] at h
    have ih := look_del k k' (ms := ms) h.2
    simp only [delR]
    by_cases hk : k = p.1
    · subst hk
      rw [if_pos rfl, look_cons]
      by_cases h2 : k' = p.1
      · subst h2; rw [if_pos rfl]; exact look_none.2 h.1
      · rw [if_neg h2, if_neg h2]
    · rw [if_neg hk, look_cons, look_cons, ih]
      by_cases h2 : k' = p.1
      · have : ¬ p.1 = k := fun e => hk e.symm
        simp [h2, this]
      · simp [h2]
theorem nodup_del (k : κ) {ms : List (κ × α)} (h : (keysOf ms).Nodup) : (keysOf (delR k ms)).Nodup := by
  rw [keys_del k h]; exact h.filter _

/-- Block b is a map that holds these pairs. -/
def MapA (b : Nat) (enc : κ → Value) (encv : α → Value) (ms : List (κ × α)) : Assn where
  fp := [b]
  ok w := ∃ es clock, w.heap[b]? = some (.map es clock) ∧ entsOf enc encv ms es.toList ∧ es.toList.Pairwise (fun x y => x.born < y.born) ∧ (∀ e ∈ es.toList, e.born < clock) ∧ (keysOf ms).Nodup
  stable w w' h hk := by rw [h b (List.mem_cons_self ..)]; exact hk
end

section ops
variable {C : Ctx} {Q : EQ} {env : Env} {L : List Assn} {ops : Array Oper} {rest : List Oper}
variable {κ α : Type} [DecidableEq κ] {K E : TypeId} {enc : κ → Value} {encv : α → Value}
variable {dst : Option Tmp} {ty : TypeId} {pos : String} {after : Array Edge} {guard : Option (Nat × Bool)} {x y z : Operand} {v : Value} {T : TypeId} {b : Nat} {ms : List (κ × α)} {k : κ} {a : α}

theorem run_getObj_map {P : Program} {w : World} {es : Array MapEntry} {clock : Nat} (h : w.heap[b]? = some (.map es clock)) : (getObj b).run P w = .ok (.map es clock) w := by
  simp [getObj, Sem.run, h]
def zero1 (P : Program) (T : TypeId) : Option Value := (P.info? T).bind (·.zero)
theorem run_zero1 {P : Program} {w : World} {z : Value} (h : zero1 P T = some z) : (zeroValue T).run P w = .ok z w := by
  obtain ⟨i, hi, hz⟩ := Option.bind_eq_some_iff.1 h
  simp [zeroValue, typeInfo, hi, hz]
def valOr (encv : α → Value) (z : Value) : Option α → Value
  | some a => encv a
  | none => z
theorem Qt.lookup {z : Value} (ht : C.P.underlying T = some (.map K E)) (law : KeyLaw C.P K enc) (hz : zero1 C.P E = some z) (hx : env.ev x = .map (some b)) (hy : env.ev y = enc k) (h : Has C L (MapA b enc encv ms)) :
    Qt C L ⟨dst, .lookup T x y false, ty, pos, after, guard⟩ env (valOr encv z (look k ms)) := fun w hw => by
  obtain ⟨es, clock, hb, he, _⟩ := h w hw
  simp only [execOp, hx, hy, Instr.lookup, Sem.run_bind, run_underlying ht, Result.andThen_ok, run_getObj_map hb, Sem.run_pure, law.check, findKey_run law k w ms _ he, look]
  cases hf : findAt k ms 0 with
  | none => simp [run_zero1 hz, valOr]
  | some p => simp [valOr]
theorem Qt.lookup_ok {z : Value} (ht : C.P.underlying T = some (.map K E)) (law : KeyLaw C.P K enc) (hz : zero1 C.P E = some z) (hx : env.ev x = .map (some b)) (hy : env.ev y = enc k) (h : Has C L (MapA b enc encv ms)) :
    Qt C L ⟨dst, .lookup T x y true, ty, pos, after, guard⟩ env (.tuple #[valOr encv z (look k ms), .bool (look k ms).isSome]) := fun w hw => by
  obtain ⟨es, clock, hb, he, _⟩ := h w hw
  simp only [execOp, hx, hy, Instr.lookup, Sem.run_bind, run_underlying ht, Result.andThen_ok, run_getObj_map hb, Sem.run_pure, law.check, findKey_run law k w ms _ he, look]
  cases hf : findAt k ms 0 with
  | none => simp [run_zero1 hz, valOr]
  | some p => simp [valOr]
theorem Qt.len_map (ht : C.P.underlying T = some (.map K E)) (hx : env.ev x = .map (some b)) (h : Has C L (MapA b enc encv ms)) :
    Qt C L ⟨dst, .call { callee := .builtin .len, args := #[x], argTypes := #[T] }, ty, pos, after, guard⟩ env (.int .i64 ((ms.length : Nat) : Int)) := fun w hw => by
  obtain ⟨es, clock, hb, he, _⟩ := h w hw
  have hl : es.size = ms.length := by rw [← he.length]; simp
  simp [execOp, resolve, invoke, builtin, hx, Builtin.len_, run_underlying ht, run_getObj_map hb, goInt, hl]
theorem OpV.makeMap {K' : Value → List Assn → Prop} (h : ∀ b, K' (.map (some b)) (MapA b enc encv ([] : List (κ × α)) :: L)) : OpV C ⟨dst, .makeMap T none, ty, pos, after, guard⟩ env L K' := fun w hw => by
  have hrun : (execOp env.ev ⟨dst, .makeMap T none, ty, pos, after, guard⟩).run C.P w = .ok (.value (.map (some w.heap.size))) (w.alloc (.map #[] 0)) := by
    simp [execOp, Instr.makeMap]
  rw [hrun]
  have h1 := hw.alloc (.map #[] 0)
  have hok : (MapA w.heap.size enc encv ([] : List (κ × α))).ok (w.alloc (.map #[] 0)) := ⟨#[], 0, heap_alloc_new w _, by simp [entsOf], by simp, by simp, by simp [keysOf]⟩
  have h2 : St C.w0 C.M ([] ++ IsObj w.heap.size (.map #[] 0) :: L) (w.alloc (.map #[] 0)) := h1
  exact ⟨_, h2.upd (A' := MapA w.heap.size enc encv ([] : List (κ × α))) rfl rfl rfl rfl rfl (fun _ _ => rfl) hok, h w.heap.size⟩

theorem modify_map {es : List MapEntry} {ms : List (κ × α)} (h : entsOf enc encv ms es) (i : Nat) (f : MapEntry → MapEntry) (g : κ × α → κ × α) (hfg : ∀ e p, e.key = enc p.1 → e.val = encv p.2 → (f e).key = enc (g p).1 ∧ (f e).val = encv (g p).2) :
    entsOf enc encv (ms.modify i g) (es.modify i f) := by
  induction ms generalizing es i with
  | nil => rw [h.nil]; simp [entsOf]
  | cons p ms ih =>
    obtain ⟨e, es', rfl, h1, h2, h3⟩ := h.cons
    cases i with
    | zero =>
      have := hfg e p h1 h2
      simp only [entsOf] at h3
      simp [entsOf, this.1, this.2, h3]
    | succ i =>
      have := ih h3 i
      simp only [entsOf] at this
      simp [entsOf, h1, h2, this]
theorem findAt_get {k : κ} : ∀ {ms : List (κ × α)} {i j : Nat} {a : α}, findAt k ms i = some (j, a) → i ≤ j ∧ ms[j - i]? = some (k, a)
  | [], _, _, _, h => by cases h
  | p :: ms, i, j, a, h => by
    simp only [findAt] at h
    by_cases hk : k = p.1
    · rw [if_pos hk] at h
      injection h with h
      injection h with h1 h2
      subst h1 h2
      rw [Nat.sub_self]
      exact ⟨Nat.le_refl _, by simp [hk]⟩
    · rw [if_neg hk] at h
      obtain ⟨h1, h2⟩ := findAt_get h
      refine ⟨by omega, ?_⟩
      rw [show j - i = (j - (i + 1)) + 1 by omega]
      simpa using h2
theorem ents_get {es : List MapEntry} {ms : List (κ × α)} (h : entsOf enc encv ms es) {i : Nat} {p : κ × α} (hp : ms[i]? = some p) : ∃ e, es[i]? = some e ∧ e.key = enc p.1 ∧ e.val = encv p.2 := by
  have hl : i < es.length := by rw [h.length]; exact (List.getElem?_eq_some_iff.1 hp).1
  refine ⟨es[i], List.getElem?_eq_getElem hl, ?_⟩
  have := congrArg (fun l => l[i]?) h
  simp only [List.getElem?_map, List.getElem?_eq_getElem hl, hp, Option.map_some, Option.some.injEq, Prod.mk.injEq] at this
  exact this
theorem pairwise_modify {es : List MapEntry} {R : MapEntry → MapEntry → Prop} (f : MapEntry → MapEntry) (hf : ∀ e, (f e).born = e.born) (hR : ∀ a b c d : MapEntry, a.born = c.born → b.born = d.born → R a b → R c d) (h : es.Pairwise R) (i : Nat) : (es.modify i f).Pairwise R := by
  induction es generalizing i with
  | nil => simp
  | cons e es ih =>
    rw [List.pairwise_cons] at h
    cases i with
    | zero => simp only [List.modify_zero_cons, List.pairwise_cons]; exact ⟨fun x hx => hR _ _ _ _ (hf e).symm rfl (h.1 x hx), h.2⟩
    | succ i =>
      simp only [List.modify_succ_cons, List.pairwise_cons]
      refine ⟨fun x hx => ?_, ih h.2 i⟩
      obtain ⟨j, hj⟩ := List.mem_iff_getElem?.1 hx
      rw [List.getElem?_modify] at hj
      split at hj
      · cases hy : es[j]? with
        | none => simp [hy] at hj
        | some y =>
          simp [hy] at hj
          subst hj
          exact hR e y e _ rfl (hf y).symm (h.1 y (List.mem_of_getElem? hy))
      · exact h.1 x (List.mem_of_getElem? (by simpa using hj))
theorem born_modify {es : List MapEntry} {c : Nat} (f : MapEntry → MapEntry) (hf : ∀ e, (f e).born = e.born) (h : ∀ e ∈ es, e.born < c) (i : Nat) : ∀ e ∈ es.modify i f, e.born < c := by
  intro x hx
  obtain ⟨j, hj⟩ := List.mem_iff_getElem?.1 hx
  rw [List.getElem?_modify] at hj
  split at hj
  · cases hy : es[j]? with
    | none => simp [hy] at hj
    | some y =>
      simp [hy] at hj
      subst hj
      rw [hf]; exact h y (List.mem_of_getElem? hy)
  · exact h x (List.mem_of_getElem? (by simpa using hj))

/-- A world in which block b is another object. -/
theorem St.setObj {w0 w : World} {M : List Nat} {L1 L2 : List Assn} {A A' : Assn} {o : Obj} (h : St w0 M (L1 ++ A :: L2) w) (hfp : A.fp = [b]) (hfp' : A'.fp = [b]) (hb : b < w.heap.size)
    (hok : ∀ w', w'.heap[b]? = some o → A'.ok w') : St w0 M (L1 ++ A' :: L2) { w with heap := w.heap.setIfInBounds b o } := by
  refine h.upd (by rw [hfp, hfp']) rfl rfl rfl (by simp) (fun k hk => ?_) (hok _ (by simp [hb]))
  rw [hfp] at hk
  have hne : b ≠ k := fun e => hk (by rw [e]; exact List.mem_cons_self ..)
  simp [Array.getElem?_setIfInBounds_ne hne]
theorem run_setObj_map {P : Program} {w : World} {o : Obj} {es : Array MapEntry} {clock : Nat} (h : w.heap[b]? = some (.map es clock)) : (setObj b o).run P w = .ok () { w with heap := w.heap.setIfInBounds b o } := by
  simp [setObj, Sem.run, h]
theorem lt_of_heap {w : World} {o : Obj} (h : w.heap[b]? = some o) : b < w.heap.size := (Array.getElem?_eq_some_iff.1 h).1
theorem OpV.mapUpdateG {K' : Value → List Assn → Prop} {L1 L2 : List Assn} (ht : C.P.underlying T = some (.map K E)) (law : KeyLaw C.P K enc) (hx : env.ev x = .map (some b)) (hy : env.ev y = enc k) (hz : env.ev z = encv a)
    (h : K' undef (L1 ++ MapA b enc encv (updR k a ms) :: L2)) : OpV C ⟨dst, .mapUpdate T x y z, ty, pos, after, guard⟩ env (L1 ++ MapA b enc encv ms :: L2) K' := fun w hw => by
  obtain ⟨es, clock, hb, he, hp, hc, hn⟩ := hw.ok (A := MapA b enc encv ms) (List.mem_append.2 (.inr (List.mem_cons_self ..)))
  have hlt := lt_of_heap hb
  simp only [execOp, hx, hy, hz, Instr.mapUpdate, Sem.run_bind, run_underlying ht, Result.andThen_ok, run_getObj_map hb, law.check, findKey_run law k w ms _ he]
  cases hf : findAt k ms 0 with
  | none =>
    simp only [Option.map_none, run_setObj_map hb, Result.andThen_ok, Sem.run_pure]
    refine ⟨_, hw.setObj rfl rfl hlt (A' := MapA b enc encv (updR k a ms)) (fun w' hw' => ⟨_, _, hw', ?_, ?_, ?_, nodup_upd k a hn⟩), h⟩
    · have hu : updR k a ms = ms ++ [(k, a)] := by rw [← upd_eq]; unfold upd; rw [hf]
      rw [hu]
      unfold entsOf at he ⊢
      simp [he]
    · simp only [Array.toList_push, List.pairwise_append]
      exact ⟨hp, by simp, fun e he' y hy => by simp at hy; subst hy; exact hc e he'⟩
    · intro e he'
      simp only [Array.toList_push, List.mem_append, List.mem_singleton] at he'
      rcases he' with he' | rfl
      · exact Nat.lt_succ_of_lt (hc e he')
      · exact Nat.lt_succ_self _
  | some p =>
    obtain ⟨i, a0⟩ := p
    obtain ⟨hi0, hget⟩ := findAt_get hf
    rw [Nat.sub_zero] at hget
    obtain ⟨e0, hge, hke, hve⟩ := ents_get he hget
    have hge' : es[i]? = some e0 := by rw [← Array.getElem?_toList]; exact hge
    have hkey : (Instr.keyThatStays (((es[i]?).map (·.key)).getD (enc k)) (enc k)).run C.P w = .ok (enc k) w := by
      rw [hge', Option.map_some, Option.getD_some, hke]
      unfold Instr.keyThatStays
      rw [law.bits, if_pos rfl]
      rfl
    simp only [Option.map_some, Sem.run_bind, hkey, Result.andThen_ok, run_setObj_map hb, Sem.run_pure]
    have hml : (es.modify i fun e => { e with key := enc k, val := encv a }).toList = es.toList.modify i fun e => { e with key := enc k, val := encv a } := by simp
    refine ⟨_, hw.setObj rfl rfl hlt (A' := MapA b enc encv (updR k a ms)) (fun w' hw' => ⟨_, _, hw', ?_, ?_, ?_, nodup_upd k a hn⟩), h⟩
    · have hu : updR k a ms = ms.modify i fun p => (p.1, a) := by rw [← upd_eq]; unfold upd; rw [hf]
      have hu2 : (ms.modify i fun p => (p.1, a)) = ms.modify i fun p => (k, a) := by
        apply List.ext_getElem?
        intro j
        rw [List.getElem?_modify, List.getElem?_modify]
        by_cases hij : i = j
        · subst hij
          simp [hget]
        · simp [hij]
      rw [hu, hu2, hml]
      exact modify_map he i _ _ (fun e p _ _ => ⟨rfl, rfl⟩)
    · rw [hml]; exact pairwise_modify (fun e => { e with key := enc k, val := encv a }) (fun _ => rfl) (fun a b c d h1 h2 h3 => by rw [← h1, ← h2]; exact h3) hp i
    · rw [hml]; exact born_modify (fun e => { e with key := enc k, val := encv a }) (fun _ => rfl) hc i
theorem map_eraseIdx {β γ : Type} (f : β → γ) : ∀ (l : List β) (i : Nat), (l.eraseIdx i).map f = (l.map f).eraseIdx i
  | [], _ => by simp
  | _ :: _, 0 => by simp
  | x :: l, i + 1 => by simp [map_eraseIdx f l i]
theorem OpV.deleteG {K' : Value → List Assn → Prop} {L1 L2 : List Assn} {tys : Array TypeId} (htys : tys[0]? = some T) (ht : C.P.underlying T = some (.map K E)) (law : KeyLaw C.P K enc) (hx : env.ev x = .map (some b)) (hy : env.ev y = enc k)
    (h : K' (.tuple #[]) (L1 ++ MapA b enc encv (delR k ms) :: L2)) : OpV C ⟨dst, .call { callee := .builtin .delete, args := #[x, y], argTypes := tys }, ty, pos, after, guard⟩ env (L1 ++ MapA b enc encv ms :: L2) K' := fun w hw => by
  obtain ⟨es, clock, hb, he, hp, hc, hn⟩ := hw.ok (A := MapA b enc encv ms) (List.mem_append.2 (.inr (List.mem_cons_self ..)))
  have hlt := lt_of_heap hb
  have hrun : ∃ es', ((execOp env.ev ⟨dst, .call { callee := .builtin .delete, args := #[x, y], argTypes := tys }, ty, pos, after, guard⟩).run C.P w = .ok (.value (.tuple #[])) { w with heap := w.heap.setIfInBounds b (.map es' clock) }) ∧
      entsOf enc encv (delR k ms) es'.toList ∧ es'.toList.Pairwise (fun x y => x.born < y.born) ∧ (∀ e ∈ es'.toList, e.born < clock) := by
    cases hf : findAt k ms 0 with
    | none =>
      refine ⟨es, ?_, ?_, hp, hc⟩
      · simp [execOp, resolve, invoke, builtin, hx, hy, Builtin.delete_, htys, run_underlying ht, run_getObj_map hb, law.check, findKey_run law k w ms _ he, hf, run_setObj_map hb]
      · have hu : delR k ms = ms := by rw [← del_eq]; unfold del; rw [hf]
        rw [hu]; exact he
    | some p =>
      obtain ⟨i, a0⟩ := p
      refine ⟨es.eraseIdxIfInBounds i, ?_, ?_, ?_, ?_⟩
      · simp [execOp, resolve, invoke, builtin, hx, hy, Builtin.delete_, htys, run_underlying ht, run_getObj_map hb, law.check, findKey_run law k w ms _ he, hf, run_setObj_map hb]
      · have hu : delR k ms = ms.eraseIdx i := by rw [← del_eq]; unfold del; rw [hf]
        rw [hu]
        unfold entsOf at he ⊢
        rw [Array.toList_eraseIdxIfInBounds, map_eraseIdx, he, map_eraseIdx]
      · rw [Array.toList_eraseIdxIfInBounds]; exact hp.sublist (List.eraseIdx_sublist ..)
      · intro e he'
        rw [Array.toList_eraseIdxIfInBounds] at he'
        exact hc e ((List.eraseIdx_sublist ..).subset he')
  obtain ⟨es', hrun, h1, h2, h3⟩ := hrun
  rw [hrun]
  exact ⟨_, hw.setObj rfl rfl hlt (A' := MapA b enc encv (delR k ms)) (fun w' hw' => ⟨_, _, hw', h1, h2, h3, nodup_del k hn⟩), h⟩
end ops
end Go.E
