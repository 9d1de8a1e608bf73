/-
  The program logic, tenth part: going through a map, with the pairs alone in sight.
-/
import Derived.Test.YtlneklemjfefpaaDoorEI
namespace Go.E
set_option linter.unusedVariables false
set_option linter.unusedSectionVars false
variable {C : Ctx} {Q : EQ} {env : Env} {L : List Assn}
variable {κ α : Type} [DecidableEq κ] {K E e : TypeId} {enc : κ → Value} {encv : α → Value}
variable {dst : Option Tmp} {ty : TypeId} {pos : String} {after : Array Edge} {guard : Option (Nat × Bool)} {x y z : Operand} {v : Value} {T : TypeId} {b it : Nat} {ms : List (κ × α)} {k : κ} {a : α} {K' : Value → List Assn → Prop} {done : List κ}
theorem KeyLaw.inj {P : Program} {T : TypeId} (law : KeyLaw P T enc) (w : World) {a b : κ} (h : enc a = enc b) : a = b := by
  have h1 := law.eq a b w
  rw [← h, law.eq a a w] at h1
  injection h1 with h1 _
  have : decide (a = b) = true := by rw [← h1]; simp
  exact of_decide_eq_true this
/-- One assertion read as another list of assertions of the same blocks. -/
theorem St.conv {w0 w : World} {M : List Nat} {L1 L2 N N' : List Assn} (h : St w0 M (L1 ++ N ++ L2) w) (hf : fps N' = fps N) (hok : ∀ A ∈ N', A.ok w) : St w0 M (L1 ++ N' ++ L2) w := by
  have hf' : fps (L1 ++ N' ++ L2) = fps (L1 ++ N ++ L2) := by simp only [fps_append, hf]
  refine ⟨h.os, h.tape, h.output, h.size, h.block, ⟨fun A hA => ?_, ?_, ?_⟩, ?_⟩
  · rcases List.mem_append.1 hA with hA | hA
    · rcases List.mem_append.1 hA with hA | hA
      · exact h.sat.ok A (List.mem_append.2 (.inl (List.mem_append.2 (.inl hA))))
      · exact hok A hA
    · exact h.sat.ok A (List.mem_append.2 (.inr hA))
  · rw [hf']; exact h.sat.lt
  · rw [hf']; exact h.sat.nodup
  · rw [hf']; exact h.own
structure MapInv (enc : κ → Value) (encv : α → Value) (ms : List (κ × α)) (done : List κ) (es : Array MapEntry) (clock : Nat) (ds : List MapEntry) : Prop where
  ents : entsOf enc encv ms es.toList
  pw : es.toList.Pairwise (fun x y => x.born < y.born)
  lt : ∀ e ∈ es.toList, e.born < clock
  nodup : (keysOf ms).Nodup
  seen : ∀ e ∈ es.toList, e.born ∈ ds.map (·.born) ↔ ∃ k ∈ done, e.key = enc k
  last : ∀ d k, done = d ++ [k] → ∀ e ∈ es.toList, e.key = enc k → ∃ ds' e', ds = ds' ++ [e'] ∧ e'.born = e.born
/-- Block b is a map that holds these pairs, block it an iterator over it, and these keys have come. -/
def MapI (b it : Nat) (enc : κ → Value) (encv : α → Value) (ms : List (κ × α)) (done : List κ) : Assn where
  fp := [b, it]
  ok w := ∃ es clock ds, w.heap[b]? = some (.map es clock) ∧ w.heap[it]? = some (.mapIter (some b) clock (ds.map (·.born)).toArray clock) ∧ MapInv enc encv ms done es clock ds
  stable w w' h hk := by
    rw [h b (List.mem_cons_self ..), h it (List.mem_cons_of_mem _ (List.mem_cons_self ..))]; exact hk
theorem ents_mem {ms : List (κ × α)} {es : List MapEntry} (h : entsOf enc encv ms es) {e : MapEntry} (he : e ∈ es) : ∃ p ∈ ms, e.key = enc p.1 ∧ e.val = encv p.2 := by
  have : (e.key, e.val) ∈ es.map (fun e => (e.key, e.val)) := List.mem_map_of_mem he
  unfold entsOf at h
  rw [h] at this
  obtain ⟨p, hp, he⟩ := List.mem_map.1 this
  injection he with h1 h2
  exact ⟨p, hp, h1.symm, h2.symm⟩
theorem ents_mem' {ms : List (κ × α)} {es : List MapEntry} (h : entsOf enc encv ms es) {p : κ × α} (hp : p ∈ ms) : ∃ e ∈ es, e.key = enc p.1 ∧ e.val = encv p.2 := by
  have : (enc p.1, encv p.2) ∈ ms.map (fun p => (enc p.1, encv p.2)) := List.mem_map_of_mem (f := fun p : κ × α => (enc p.1, encv p.2)) hp
  unfold entsOf at h
  rw [← h] at this
  obtain ⟨e, he, h⟩ := List.mem_map.1 this
  injection h with h1 h2
  exact ⟨e, he, h1, h2⟩
theorem ents_uniq (inj : ∀ a b, enc a = enc b → a = b) : ∀ {ms : List (κ × α)} {es : List MapEntry}, entsOf enc encv ms es → (keysOf ms).Nodup → ∀ e ∈ es, ∀ e' ∈ es, e.key = e'.key → e = e'
  | [], es, h, _, e, he, _, _, _ => by
    unfold entsOf at h; simp at h; subst h; cases he
  | p :: ms, es, h, hn, e, he, e', he', hk => by
    obtain ⟨e0, es', rfl, h1, h2, h3⟩ := h.cons
    simp only [keysOf, List.map_cons, List.nodup_cons] at hn
    have hno : ∀ e ∈ es', e.key ≠ e0.key := fun e he hk => by
      obtain ⟨q, hq, hq1, _⟩ := ents_mem h3 he
      rw [h1, hq1] at hk
      exact hn.1 (inj _ _ hk ▸ List.mem_map_of_mem hq)
    rcases List.mem_cons.1 he with h4 | h4 <;> rcases List.mem_cons.1 he' with h5 | h5
    · exact h4.trans h5.symm
    · subst h4; exact absurd hk.symm (hno _ h5)
    · subst h5; exact absurd hk (hno _ h4)
    · exact ents_uniq inj h3 hn.2 e h4 e' h5 hk
theorem born_uniq : ∀ {l : List MapEntry}, l.Pairwise (fun x y => x.born < y.born) → ∀ e ∈ l, ∀ e' ∈ l, e.born = e'.born → e = e'
  | [], _, e, he, _, _, _ => by cases he
  | a :: l, hp, e, he, e', he', hb => by
    rw [List.pairwise_cons] at hp
    rcases List.mem_cons.1 he with h4 | h4 <;> rcases List.mem_cons.1 he' with h5 | h5
    · exact h4.trans h5.symm
    · subst h4; have := hp.1 _ h5; omega
    · subst h5; have := hp.1 _ h4; omega
    · exact born_uniq hp.2 e h4 e' h5 hb
theorem MapInv.step (inj : ∀ a b, enc a = enc b → a = b) {es : Array MapEntry} {clock : Nat} {ds : List MapEntry} (h : MapInv enc encv ms done es clock ds) {e : MapEntry} {k : κ} (he : e ∈ es.toList) (hk : e.key = enc k) : MapInv enc encv ms (done ++ [k]) es clock (ds ++ [e]) where
  ents := h.ents
  pw := h.pw
  lt := h.lt
  nodup := h.nodup
  seen e' he' := by
    rw [List.map_append, List.mem_append, h.seen e' he']
    constructor
    · rintro (⟨k', hk', h2⟩ | h2)
      · exact ⟨k', List.mem_append.2 (.inl hk'), h2⟩
      · simp at h2
        have := born_uniq h.pw _ he' _ he h2
        subst this
        exact ⟨k, by simp, hk⟩
    · rintro ⟨k', hk', h2⟩
      rcases List.mem_append.1 hk' with hk' | hk'
      · exact .inl ⟨k', hk', h2⟩
      · simp at hk'; subst hk'
        have := ents_uniq inj h.ents h.nodup _ he' _ he (h2.trans hk.symm)
        subst this
        exact .inr (by simp)
  last d k' hd e' he' hk' := by
    have := List.append_inj' hd rfl
    have hkk : k = k' := by simpa using this.2
    subst hkk
    have := ents_uniq inj h.ents h.nodup _ he' _ he (hk'.trans hk.symm)
    subst this
    exact ⟨ds, e', rfl, rfl⟩
theorem Has.ofI {L : List Assn} (h : Has C L (MapI b it enc encv ms done)) : Has C L (MapA b enc encv ms) := fun w hw => by
  obtain ⟨es, clock, ds, h1, h2, h3⟩ := h w hw
  exact ⟨es, clock, h1, h3.ents, h3.pw, h3.lt, h3.nodup⟩
theorem OpV.rangeG {L1 L2 : List Assn} (ht : C.P.underlying T = some (.map K E)) (hx : env.ev x = .map (some b))
    (h : ∀ it, K' (.pointer (some ⟨it, 0, none⟩)) (L1 ++ MapI b it enc encv ms [] :: L2)) : OpV C ⟨dst, .range T x, ty, pos, after, guard⟩ env (L1 ++ MapA b enc encv ms :: L2) K' := fun w hw => by
  obtain ⟨es, clock, hb, he, hp, hc, hn⟩ := hw.ok (A := MapA b enc encv ms) (List.mem_append.2 (.inr (List.mem_cons_self ..)))
  have hst : St C.w0 C.M (L1 ++ IsObj b (.map es clock) :: L2) w := hw.upd (A' := IsObj b (.map es clock)) rfl rfl rfl rfl rfl (fun _ _ => rfl) hb
  have := OpV.range (C := C) (env := env) (L := L1 ++ IsObj b (.map es clock) :: L2) (K := fun v L' => ∃ it, v = .pointer (some ⟨it, 0, none⟩) ∧ L' = IterA it b clock [] :: (L1 ++ IsObj b (.map es clock) :: L2)) (dst := dst) (ty := ty) (pos := pos) (after := after) (guard := guard) ht hx (Has.mem (List.mem_append.2 (.inr (List.mem_cons_self ..)))) (fun it => ⟨it, rfl, rfl⟩)
  refine (this w hst).mono ?_
  rintro v w' ⟨L', hs, it, rfl, rfl⟩
  refine ⟨_, ?_, h it⟩
  have h1 : St C.w0 C.M (L1 ++ [IsObj b (.map es clock), IterA it b clock []] ++ L2) w' := hs.perm (by
    rw [List.append_assoc]
    refine List.Perm.trans (List.perm_middle (a := IterA it b clock []) (l₁ := L1) (l₂ := IsObj b (.map es clock) :: L2)).symm ?_
    exact List.Perm.append_left _ (List.Perm.swap ..))
  have h2 := h1.conv (N' := [MapI b it enc encv ms []]) (by simp [fps, IsObj.fp, IterA, MapI]) (by
    intro A hA
    simp only [List.mem_singleton] at hA
    subst hA
    exact ⟨es, clock, [], h1.ok (A := IsObj b (.map es clock)) (by simp), h1.ok (A := IterA it b clock []) (by simp), he, hp, hc, hn, by simp, by simp⟩)
  simpa using h2
theorem OpV.nextI {L1 L2 : List Assn} (inj : ∀ a b, enc a = enc b → a = b) (hx : env.ev x = .pointer (some ⟨it, 0, none⟩))
    (h0 : (∀ p ∈ ms, p.1 ∈ done) → K' (.tuple #[.bool false]) (L1 ++ MapI b it enc encv ms done :: L2))
    (h1 : ∀ k a, (k, a) ∈ ms → k ∉ done → K' (.tuple #[.bool true, enc k, encv a]) (L1 ++ MapI b it enc encv ms (done ++ [k]) :: L2)) :
    OpV C ⟨dst, .next x false, ty, pos, after, guard⟩ env (L1 ++ MapI b it enc encv ms done :: L2) K' := fun w hw => by
  obtain ⟨es, clock, ds, hb, hi, hv⟩ := hw.ok (A := MapI b it enc encv ms done) (List.mem_append.2 (.inr (List.mem_cons_self ..)))
  have hst0 : St C.w0 C.M (L1 ++ [MapI b it enc encv ms done] ++ L2) w := by simpa using hw
  have hst := hst0.conv (N' := [IsObj b (.map es clock), IterA it b clock ds]) (by simp [fps, IsObj.fp, IterA, MapI]) (by
    intro A hA
    simp only [List.mem_cons, List.not_mem_nil, or_false] at hA
    rcases hA with rfl | rfl
    · exact hb
    · exact hi)
  have hst2 : St C.w0 C.M ((L1 ++ [IsObj b (.map es clock)]) ++ IterA it b clock ds :: L2) w := by simpa using hst
  have back : ∀ {w' : World} {ds' : List MapEntry} {done' : List κ}, St C.w0 C.M ((L1 ++ [IsObj b (.map es clock)]) ++ IterA it b clock ds' :: L2) w' → MapInv enc encv ms done' es clock ds' → St C.w0 C.M (L1 ++ MapI b it enc encv ms done' :: L2) w' := by
    intro w' ds' done' h hv'
    have h1 : St C.w0 C.M (L1 ++ [IsObj b (.map es clock), IterA it b clock ds'] ++ L2) w' := by simpa using h
    have h2 := h1.conv (N' := [MapI b it enc encv ms done']) (by simp [fps, IsObj.fp, IterA, MapI]) (by
      intro A hA
      simp only [List.mem_singleton] at hA
      subst hA
      exact ⟨es, clock, ds', h1.ok (A := IsObj b (.map es clock)) (by simp), h1.ok (A := IterA it b clock ds') (by simp), hv'⟩)
    simpa using h2
  have := OpV.nextG (C := C) (env := env) (L1 := L1 ++ [IsObj b (.map es clock)]) (L2 := L2) (i := it) (m := b) (clock := clock) (es := es) (ds := ds) (dst := dst) (ty := ty) (pos := pos) (after := after) (guard := guard)
    (K := fun v L' => ((∀ p ∈ ms, p.1 ∈ done) ∧ v = .tuple #[.bool false] ∧ L' = (L1 ++ [IsObj b (.map es clock)]) ++ IterA it b clock ds :: L2) ∨
      (∃ e k a, e ∈ es.toList ∧ e.key = enc k ∧ (k, a) ∈ ms ∧ k ∉ done ∧ v = .tuple #[.bool true, enc k, encv a] ∧ L' = (L1 ++ [IsObj b (.map es clock)]) ++ IterA it b clock (ds ++ [e]) :: L2)) hx (Has.mem (by simp)) hv.lt
    (fun hall => .inl ⟨fun p hp => by
      obtain ⟨e, he, hk, _⟩ := ents_mem' hv.ents hp
      obtain ⟨k, hk', h2⟩ := (hv.seen e he).1 (hall e he)
      rw [hk] at h2
      exact inj _ _ h2 ▸ hk', rfl, rfl⟩)
    (fun e he hno => by
      obtain ⟨p, hp, h1, h2⟩ := ents_mem hv.ents he
      exact .inr ⟨e, p.1, p.2, he, h1, hp, fun hd => hno ((hv.seen e he).2 ⟨p.1, hd, h1⟩), by rw [h1, h2], rfl⟩)
  refine (this w hst2).mono ?_
  rintro v w' ⟨L', hs, ⟨hall, rfl, rfl⟩ | ⟨e, k, a, he, hk, hm, hd, rfl, rfl⟩⟩
  · exact ⟨_, back hs hv, h0 hall⟩
  · exact ⟨_, back hs (hv.step inj he hk), h1 k a hm hd⟩
theorem Qt.entryI {done : List κ} (inj : ∀ a b, enc a = enc b → a = b) (hx : env.ev x = .pointer (some ⟨it, 0, none⟩)) (h : Has C L (MapI b it enc encv ms (done ++ [k]))) (hm : (k, a) ∈ ms) :
    Qt C L ⟨dst, .entry x, ty, pos, after, guard⟩ env (.tuple #[enc k, encv a]) := fun w hw => by
  obtain ⟨es, clock, ds, hb, hi, hv⟩ := h w hw
  obtain ⟨e, he, hk, ha⟩ := ents_mem' hv.ents hm
  obtain ⟨ds', e', rfl, hbn⟩ := hv.last _ _ rfl e he hk
  have hgi := run_getObj_iter (P := C.P) (by intro c t f e; cases e) hi
  have hback : (((ds' ++ [e']).map (·.born)).toArray).back? = some e.born := by simp [hbn]
  have hfind : es.find? (fun x => x.born == e.born) = some e := by
    rw [← Array.find?_toList]
    exact find_born hv.pw he
  simp only [execOp, hx, Instr.entry, Sem.run_bind, hgi, Result.andThen_ok, hback, run_getObj_map hb, bne_self_eq_false, Bool.false_eq_true, if_false, Sem.run_pure, hfind, hk, ha]
theorem OpV.delI {L1 L2 : List Assn} {tys : Array TypeId} (htys : tys[0]? = some T) (ht : C.P.underlying T = some (.map K E)) (law : KeyLaw C.P K enc) (hx : env.ev x = .map (some b)) (hy : env.ev y = enc k)
    (h : K' (.tuple #[]) (L1 ++ MapI b it enc encv (delR k ms) done :: L2)) : OpV C ⟨dst, .call { callee := .builtin .delete, args := #[x, y], argTypes := tys }, ty, pos, after, guard⟩ env (L1 ++ MapI b it enc encv ms done :: L2) K' := fun w hw => by
  obtain ⟨es, clock, ds, hb, hi, hv⟩ := hw.ok (A := MapI b it enc encv ms done) (List.mem_append.2 (.inr (List.mem_cons_self ..)))
  have hst0 : St C.w0 C.M (L1 ++ [MapI b it enc encv ms done] ++ L2) w := by simpa using hw
  have hst := hst0.conv (N' := [IsObj b (.map es clock), IterA it b clock ds]) (by simp [fps, IsObj.fp, IterA, MapI]) (by
    intro A hA
    simp only [List.mem_cons, List.not_mem_nil, or_false] at hA
    rcases hA with rfl | rfl
    · exact hb
    · exact hi)
  have hst2 : St C.w0 C.M (L1 ++ IsObj b (.map es clock) :: (IterA it b clock ds :: L2)) w := by simpa using hst
  have hlt := lt_of_heap hb
  have he := hv.ents
  have hrun : ∃ es', ((execOp env.ev ⟨dst, .call { callee := .builtin .delete, args := #[x, y], argTypes := tys }, ty, pos, after, guard⟩).run C.P w = .ok (.value (.tuple #[])) { w with heap := w.heap.setIfInBounds b (.map es' clock) }) ∧
      entsOf enc encv (delR k ms) es'.toList ∧ es'.toList.Sublist es.toList := by
    cases hf : findAt k ms 0 with
    | none =>
      refine ⟨es, ?_, ?_, List.Sublist.refl _⟩
      · simp [execOp, resolve, invoke, builtin, hx, hy, Builtin.delete_, htys, run_underlying ht, run_getObj_map hb, law.check, findKey_run law k w ms _ he, hf, run_setObj_map hb]
      · have hu : delR k ms = ms := by rw [← del_eq]; unfold del; rw [hf]
        rw [hu]; exact he
    | some p =>
      obtain ⟨i, a0⟩ := p
      refine ⟨es.eraseIdxIfInBounds i, ?_, ?_, ?_⟩
      · simp [execOp, resolve, invoke, builtin, hx, hy, Builtin.delete_, htys, run_underlying ht, run_getObj_map hb, law.check, findKey_run law k w ms _ he, hf, run_setObj_map hb]
      · have hu : delR k ms = ms.eraseIdx i := by rw [← del_eq]; unfold del; rw [hf]
        rw [hu]
        unfold entsOf at he ⊢
        rw [Array.toList_eraseIdxIfInBounds, map_eraseIdx, he, map_eraseIdx]
      · rw [Array.toList_eraseIdxIfInBounds]; exact List.eraseIdx_sublist ..
  obtain ⟨es', hrun, h1, h2⟩ := hrun
  rw [hrun]
  refine ⟨_, ?_, h⟩
  have hs := hst2.setObj (A := IsObj b (.map es clock)) (A' := IsObj b (.map es' clock)) (o := .map es' clock) rfl rfl hlt (fun w' hw' => hw')
  have hs2 : St C.w0 C.M (L1 ++ [IsObj b (.map es' clock), IterA it b clock ds] ++ L2) { w with heap := w.heap.setIfInBounds b (.map es' clock) } := by simpa using hs
  have h3 := hs2.conv (N' := [MapI b it enc encv (delR k ms) done]) (by simp [fps, IsObj.fp, IterA, MapI]) (by
    intro A hA
    simp only [List.mem_singleton] at hA
    subst hA
    exact ⟨es', clock, ds, hs2.ok (A := IsObj b (.map es' clock)) (by simp), hs2.ok (A := IterA it b clock ds) (by simp), h1, hv.pw.sublist h2, fun e he => hv.lt e (h2.subset he), nodup_del k hv.nodup, fun e he => hv.seen e (h2.subset he), fun d k' hd e he hk => hv.last d k' hd e (h2.subset he) hk⟩)
  simpa using h3
theorem St.endI {w0 w : World} {M : List Nat} {L1 L2 : List Assn} (h : St w0 M (L1 ++ MapI b it enc encv ms done :: L2) w) : St w0 M (L1 ++ MapA b enc encv ms :: L2) w := by
  obtain ⟨es, clock, ds, hb, hi, hv⟩ := h.ok (A := MapI b it enc encv ms done) (List.mem_append.2 (.inr (List.mem_cons_self ..)))
  have hst0 : St w0 M (L1 ++ [MapI b it enc encv ms done] ++ L2) w := by simpa using h
  have hst := hst0.conv (N' := [MapA b enc encv ms, IterA it b clock ds]) (by simp [fps, IsObj.fp, IterA, MapI, MapA]) (by
    intro A hA
    simp only [List.mem_cons, List.not_mem_nil, or_false] at hA
    rcases hA with rfl | rfl
    · exact ⟨es, clock, hb, hv.ents, hv.pw, hv.lt, hv.nodup⟩
    · exact hi)
  refine hst.sub ⟨[IterA it b clock ds], ?_⟩
  simp only [List.append_assoc, List.cons_append, List.nil_append]
  refine List.Perm.append_left _ (List.Perm.cons _ ?_)
  exact List.perm_append_comm (l₁ := [IterA it b clock ds]) (l₂ := L2)
theorem TC.endI {L1 L2 : List Assn} {c : Code} (h : TC C c Q env (L1 ++ MapA b enc encv ms :: L2)) : TC C c Q env (L1 ++ MapI b it enc encv ms done :: L2) := fun a w ha hw => h a w ha hw.endI

theorem OpV.range0 {R : List Assn} (ht : C.P.underlying T = some (.map K E)) (hx : env.ev x = .map (some b))
    (h : ∀ it, K' (.pointer (some ⟨it, 0, none⟩)) (MapI b it enc encv ms [] :: R)) : OpV C ⟨dst, .range T x, ty, pos, after, guard⟩ env (MapA b enc encv ms :: R) K' := OpV.rangeG (L1 := []) ht hx h
theorem OpV.nextI0 {R : List Assn} (inj : ∀ a b, enc a = enc b → a = b) (hx : env.ev x = .pointer (some ⟨it, 0, none⟩))
    (h0 : (∀ p ∈ ms, p.1 ∈ done) → K' (.tuple #[.bool false]) (MapI b it enc encv ms done :: R))
    (h1 : ∀ k a, (k, a) ∈ ms → k ∉ done → K' (.tuple #[.bool true, enc k, encv a]) (MapI b it enc encv ms (done ++ [k]) :: R)) :
    OpV C ⟨dst, .next x false, ty, pos, after, guard⟩ env (MapI b it enc encv ms done :: R) K' := OpV.nextI (L1 := []) inj hx h0 h1
theorem OpV.delI0 {R : List Assn} {tys : Array TypeId} (htys : tys[0]? = some T) (ht : C.P.underlying T = some (.map K E)) (law : KeyLaw C.P K enc) (hx : env.ev x = .map (some b)) (hy : env.ev y = enc k)
    (h : K' (.tuple #[]) (MapI b it enc encv (delR k ms) done :: R)) : OpV C ⟨dst, .call { callee := .builtin .delete, args := #[x, y], argTypes := tys }, ty, pos, after, guard⟩ env (MapI b it enc encv ms done :: R) K' := OpV.delI (L1 := []) htys ht law hx hy h
theorem TC.endI0 {R : List Assn} {c : Code} (h : TC C c Q env (MapA b enc encv ms :: R)) : TC C c Q env (MapI b it enc encv ms done :: R) := TC.endI (L1 := []) h

theorem OpV.range1 {B0 : Assn} {R : List Assn} (ht : C.P.underlying T = some (.map K E)) (hx : env.ev x = .map (some b))
    (h : ∀ it, K' (.pointer (some ⟨it, 0, none⟩)) (B0 :: MapI b it enc encv ms [] :: R)) : OpV C ⟨dst, .range T x, ty, pos, after, guard⟩ env (B0 :: MapA b enc encv ms :: R) K' := OpV.rangeG (L1 := [B0]) ht hx h
theorem OpV.nextI1 {B0 : Assn} {R : List Assn} (inj : ∀ a b, enc a = enc b → a = b) (hx : env.ev x = .pointer (some ⟨it, 0, none⟩))
    (h0 : (∀ p ∈ ms, p.1 ∈ done) → K' (.tuple #[.bool false]) (B0 :: MapI b it enc encv ms done :: R))
    (h1 : ∀ k a, (k, a) ∈ ms → k ∉ done → K' (.tuple #[.bool true, enc k, encv a]) (B0 :: MapI b it enc encv ms (done ++ [k]) :: R)) :
    OpV C ⟨dst, .next x false, ty, pos, after, guard⟩ env (B0 :: MapI b it enc encv ms done :: R) K' := OpV.nextI (L1 := [B0]) inj hx h0 h1
theorem OpV.delI1 {B0 : Assn} {R : List Assn} {tys : Array TypeId} (htys : tys[0]? = some T) (ht : C.P.underlying T = some (.map K E)) (law : KeyLaw C.P K enc) (hx : env.ev x = .map (some b)) (hy : env.ev y = enc k)
    (h : K' (.tuple #[]) (B0 :: MapI b it enc encv (delR k ms) done :: R)) : OpV C ⟨dst, .call { callee := .builtin .delete, args := #[x, y], argTypes := tys }, ty, pos, after, guard⟩ env (B0 :: MapI b it enc encv ms done :: R) K' := OpV.delI (L1 := [B0]) htys ht law hx hy h
theorem TC.endI1 {B0 : Assn} {R : List Assn} {c : Code} (h : TC C c Q env (B0 :: MapA b enc encv ms :: R)) : TC C c Q env (B0 :: MapI b it enc encv ms done :: R) := TC.endI (L1 := [B0]) h

theorem OpV.range2 {B0 B1 : Assn} {R : List Assn} (ht : C.P.underlying T = some (.map K E)) (hx : env.ev x = .map (some b))
    (h : ∀ it, K' (.pointer (some ⟨it, 0, none⟩)) (B0 :: B1 :: MapI b it enc encv ms [] :: R)) : OpV C ⟨dst, .range T x, ty, pos, after, guard⟩ env (B0 :: B1 :: MapA b enc encv ms :: R) K' := OpV.rangeG (L1 := [B0, B1]) ht hx h
theorem OpV.nextI2 {B0 B1 : Assn} {R : List Assn} (inj : ∀ a b, enc a = enc b → a = b) (hx : env.ev x = .pointer (some ⟨it, 0, none⟩))
    (h0 : (∀ p ∈ ms, p.1 ∈ done) → K' (.tuple #[.bool false]) (B0 :: B1 :: MapI b it enc encv ms done :: R))
    (h1 : ∀ k a, (k, a) ∈ ms → k ∉ done → K' (.tuple #[.bool true, enc k, encv a]) (B0 :: B1 :: MapI b it enc encv ms (done ++ [k]) :: R)) :
    OpV C ⟨dst, .next x false, ty, pos, after, guard⟩ env (B0 :: B1 :: MapI b it enc encv ms done :: R) K' := OpV.nextI (L1 := [B0, B1]) inj hx h0 h1
theorem OpV.delI2 {B0 B1 : Assn} {R : List Assn} {tys : Array TypeId} (htys : tys[0]? = some T) (ht : C.P.underlying T = some (.map K E)) (law : KeyLaw C.P K enc) (hx : env.ev x = .map (some b)) (hy : env.ev y = enc k)
    (h : K' (.tuple #[]) (B0 :: B1 :: MapI b it enc encv (delR k ms) done :: R)) : OpV C ⟨dst, .call { callee := .builtin .delete, args := #[x, y], argTypes := tys }, ty, pos, after, guard⟩ env (B0 :: B1 :: MapI b it enc encv ms done :: R) K' := OpV.delI (L1 := [B0, B1]) htys ht law hx hy h
theorem TC.endI2 {B0 B1 : Assn} {R : List Assn} {c : Code} (h : TC C c Q env (B0 :: B1 :: MapA b enc encv ms :: R)) : TC C c Q env (B0 :: B1 :: MapI b it enc encv ms done :: R) := TC.endI (L1 := [B0, B1]) h

theorem OpV.range3 {B0 B1 B2 : Assn} {R : List Assn} (ht : C.P.underlying T = some (.map K E)) (hx : env.ev x = .map (some b))
    (h : ∀ it, K' (.pointer (some ⟨it, 0, none⟩)) (B0 :: B1 :: B2 :: MapI b it enc encv ms [] :: R)) : OpV C ⟨dst, .range T x, ty, pos, after, guard⟩ env (B0 :: B1 :: B2 :: MapA b enc encv ms :: R) K' := OpV.rangeG (L1 := [B0, B1, B2]) ht hx h
theorem OpV.nextI3 {B0 B1 B2 : Assn} {R : List Assn} (inj : ∀ a b, enc a = enc b → a = b) (hx : env.ev x = .pointer (some ⟨it, 0, none⟩))
    (h0 : (∀ p ∈ ms, p.1 ∈ done) → K' (.tuple #[.bool false]) (B0 :: B1 :: B2 :: MapI b it enc encv ms done :: R))
    (h1 : ∀ k a, (k, a) ∈ ms → k ∉ done → K' (.tuple #[.bool true, enc k, encv a]) (B0 :: B1 :: B2 :: MapI b it enc encv ms (done ++ [k]) :: R)) :
    OpV C ⟨dst, .next x false, ty, pos, after, guard⟩ env (B0 :: B1 :: B2 :: MapI b it enc encv ms done :: R) K' := OpV.nextI (L1 := [B0, B1, B2]) inj hx h0 h1
theorem OpV.delI3 {B0 B1 B2 : Assn} {R : List Assn} {tys : Array TypeId} (htys : tys[0]? = some T) (ht : C.P.underlying T = some (.map K E)) (law : KeyLaw C.P K enc) (hx : env.ev x = .map (some b)) (hy : env.ev y = enc k)
    (h : K' (.tuple #[]) (B0 :: B1 :: B2 :: MapI b it enc encv (delR k ms) done :: R)) : OpV C ⟨dst, .call { callee := .builtin .delete, args := #[x, y], argTypes := tys }, ty, pos, after, guard⟩ env (B0 :: B1 :: B2 :: MapI b it enc encv ms done :: R) K' := OpV.delI (L1 := [B0, B1, B2]) htys ht law hx hy h
theorem TC.endI3 {B0 B1 B2 : Assn} {R : List Assn} {c : Code} (h : TC C c Q env (B0 :: B1 :: B2 :: MapA b enc encv ms :: R)) : TC C c Q env (B0 :: B1 :: B2 :: MapI b it enc encv ms done :: R) := TC.endI (L1 := [B0, B1, B2]) h

theorem OpV.range4 {B0 B1 B2 B3 : Assn} {R : List Assn} (ht : C.P.underlying T = some (.map K E)) (hx : env.ev x = .map (some b))
    (h : ∀ it, K' (.pointer (some ⟨it, 0, none⟩)) (B0 :: B1 :: B2 :: B3 :: MapI b it enc encv ms [] :: R)) : OpV C ⟨dst, .range T x, ty, pos, after, guard⟩ env (B0 :: B1 :: B2 :: B3 :: MapA b enc encv ms :: R) K' := OpV.rangeG (L1 := [B0, B1, B2, B3]) ht hx h
theorem OpV.nextI4 {B0 B1 B2 B3 : Assn} {R : List Assn} (inj : ∀ a b, enc a = enc b → a = b) (hx : env.ev x = .pointer (some ⟨it, 0, none⟩))
    (h0 : (∀ p ∈ ms, p.1 ∈ done) → K' (.tuple #[.bool false]) (B0 :: B1 :: B2 :: B3 :: MapI b it enc encv ms done :: R))
    (h1 : ∀ k a, (k, a) ∈ ms → k ∉ done → K' (.tuple #[.bool true, enc k, encv a]) (B0 :: B1 :: B2 :: B3 :: MapI b it enc encv ms (done ++ [k]) :: R)) :
    OpV C ⟨dst, .next x false, ty, pos, after, guard⟩ env (B0 :: B1 :: B2 :: B3 :: MapI b it enc encv ms done :: R) K' := OpV.nextI (L1 := [B0, B1, B2, B3]) inj hx h0 h1
theorem OpV.delI4 {B0 B1 B2 B3 : Assn} {R : List Assn} {tys : Array TypeId} (htys : tys[0]? = some T) (ht : C.P.underlying T = some (.map K E)) (law : KeyLaw C.P K enc) (hx : env.ev x = .map (some b)) (hy : env.ev y = enc k)
    (h : K' (.tuple #[]) (B0 :: B1 :: B2 :: B3 :: MapI b it enc encv (delR k ms) done :: R)) : OpV C ⟨dst, .call { callee := .builtin .delete, args := #[x, y], argTypes := tys }, ty, pos, after, guard⟩ env (B0 :: B1 :: B2 :: B3 :: MapI b it enc encv ms done :: R) K' := OpV.delI (L1 := [B0, B1, B2, B3]) htys ht law hx hy h
theorem TC.endI4 {B0 B1 B2 B3 : Assn} {R : List Assn} {c : Code} (h : TC C c Q env (B0 :: B1 :: B2 :: B3 :: MapA b enc encv ms :: R)) : TC C c Q env (B0 :: B1 :: B2 :: B3 :: MapI b it enc encv ms done :: R) := TC.endI (L1 := [B0, B1, B2, B3]) h

theorem OpV.range5 {B0 B1 B2 B3 B4 : Assn} {R : List Assn} (ht : C.P.underlying T = some (.map K E)) (hx : env.ev x = .map (some b))
    (h : ∀ it, K' (.pointer (some ⟨it, 0, none⟩)) (B0 :: B1 :: B2 :: B3 :: B4 :: MapI b it enc encv ms [] :: R)) : OpV C ⟨dst, .range T x, ty, pos, after, guard⟩ env (B0 :: B1 :: B2 :: B3 :: B4 :: MapA b enc encv ms :: R) K' := OpV.rangeG (L1 := [B0, B1, B2, B3, B4]) ht hx h
theorem OpV.nextI5 {B0 B1 B2 B3 B4 : Assn} {R : List Assn} (inj : ∀ a b, enc a = enc b → a = b) (hx : env.ev x = .pointer (some ⟨it, 0, none⟩))
    (h0 : (∀ p ∈ ms, p.1 ∈ done) → K' (.tuple #[.bool false]) (B0 :: B1 :: B2 :: B3 :: B4 :: MapI b it enc encv ms done :: R))
    (h1 : ∀ k a, (k, a) ∈ ms → k ∉ done → K' (.tuple #[.bool true, enc k, encv a]) (B0 :: B1 :: B2 :: B3 :: B4 :: MapI b it enc encv ms (done ++ [k]) :: R)) :
    OpV C ⟨dst, .next x false, ty, pos, after, guard⟩ env (B0 :: B1 :: B2 :: B3 :: B4 :: MapI b it enc encv ms done :: R) K' := OpV.nextI (L1 := [B0, B1, B2, B3, B4]) inj hx h0 h1
theorem OpV.delI5 {B0 B1 B2 B3 B4 : Assn} {R : List Assn} {tys : Array TypeId} (htys : tys[0]? = some T) (ht : C.P.underlying T = some (.map K E)) (law : KeyLaw C.P K enc) (hx : env.ev x = .map (some b)) (hy : env.ev y = enc k)
    (h : K' (.tuple #[]) (B0 :: B1 :: B2 :: B3 :: B4 :: MapI b it enc encv (delR k ms) done :: R)) : OpV C ⟨dst, .call { callee := .builtin .delete, args := #[x, y], argTypes := tys }, ty, pos, after, guard⟩ env (B0 :: B1 :: B2 :: B3 :: B4 :: MapI b it enc encv ms done :: R) K' := OpV.delI (L1 := [B0, B1, B2, B3, B4]) htys ht law hx hy h
theorem TC.endI5 {B0 B1 B2 B3 B4 : Assn} {R : List Assn} {c : Code} (h : TC C c Q env (B0 :: B1 :: B2 :: B3 :: B4 :: MapA b enc encv ms :: R)) : TC C c Q env (B0 :: B1 :: B2 :: B3 :: B4 :: MapI b it enc encv ms done :: R) := TC.endI (L1 := [B0, B1, B2, B3, B4]) h

end Go.E

