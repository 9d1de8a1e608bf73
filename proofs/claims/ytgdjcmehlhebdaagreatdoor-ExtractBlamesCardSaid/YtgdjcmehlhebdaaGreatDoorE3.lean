/- The program logic, sixteenth part: the capacity, growing by a number of empty elements, sl -/
import Derived.Test.YtgdjcmehlhebdaaGreatDoorEQ
import Derived.Lib.Overlaps
import Derived.Laws.AppendOwn
set_option maxHeartbeats 25600000
namespace Go.E
set_option linter.unusedSectionVars false
variable {C : Ctx} {Q : EQ} {env : Env} {L : List Assn}
variable {dst : Option Tmp} {ty : TypeId} {pos : String} {after : Array Edge} {guard : Option (Nat × Bool)} {x y : Operand} {T T2 e : TypeId} {K : Value → List Assn → Prop}
theorem Qt.capS {A : OAd} {n c : Nat} (ht : C.P.underlying T = some (.slice e)) (hx : env.ev x = .slice A n c) :
  Qt C L ⟨dst, .call { callee := .builtin .cap, args := #[x], argTypes := #[T] }, ty, pos, after, guard⟩ env (.int .i64 (c : Int)) := fun w _ => by
 simp [execOp, resolve, invoke, builtin, hx, Builtin.cap_, run_underlying ht]
 rfl
theorem zfQ {P : Program} (w : World) (t tn ty e : TypeId) (i : TypeInfo) (z : Value) (ht : P.underlying t = some (.slice e)) (htn : P.underlying tn = some (.int .i64)) (hi : P.info? e = some i) (hz : i.zero = some z)
  (A : OAd) (c n : Nat) (hs : 0 < i.size) (hk : c < n) (hm : n ≤ maxLen) (hby : n * i.bytes ≤ 140737488355328) :
  (Builtin.append_ #[t, tn] ty #[.slice A 0 c, .int .i64 n]).run P w =
   .ok (.slice (some ⟨w.heap.size, 0, none⟩) n (grownCap w n c e)) (w.drew.alloc (.cells (Builtin.zeroCells z.cells n ++ Builtin.zeroCells z.cells (grownCap w n c e - n)) e)) := by
 simp only [maxLen] at hm
 have hn : n ≠ 0 := by omega
 have hw : IntKind.i64.wrap (n : Int) = n := by rw [IntKind.wrap_i64]; omega
 have h63' : ¬ (9223372036854775807 < (n : Int)) := by omega
 have h48' : ¬ (281474976710656 < Builtin.nextslicecap n c * i.bytes) := by have := growslice_fits (bytes := i.bytes) hk hby; omega
 have h48i : ¬ (281474976710656 < (n : Int) * (i.bytes : Int)) := by
  rw [← Int.natCast_mul]
  omega
 have hneg : ¬ ((n : Int) < 0) := by omega
 have hns : ¬ (n * i.size = 0) := Nat.mul_ne_zero hn ow
 have hck : ¬ n ≤ c := by omega
 have hf : (Builtin.firstCells i.size 0 (.slice A 0 c)).run P w.drew = .ok #[] w.drew := by cases A <;> simp [Builtin.firstCells, loadCells, loadCellsFrom]
 simp [Builtin.append_, run_underlying ht, run_underlying htn, sizeOf, typeInfo, zeroValue, hi, hz, asInt, asIntOf, hw, hneg, hns, h63', h48', h48i, hck, Question.forced, hf, newRow, grownCap]
theorem OpV.appZ {A : OAd} {c k sz bytes : Nat} (ht : C.P.underlying T = some (.slice e)) (htn : C.P.underlying T2 = some (.int .i64)) (he : zcn C.P e sz bytes) (hx : env.ev x = .slice A 0 c) (hy : env.ev y = .int .i64 (k : Int)) (hk : c < k) (hkm : k ≤ maxLen) (hby : k * bytes ≤ 140737488355328)
  (h : ∀ b c' cs, k ≤ c' → c' ≤ maxLen → cs.length = c' * sz → K (.slice (some ⟨b, 0, none⟩) k c') (Blk b e cs :: L)) : OpV C ⟨dst, .call { callee := .builtin .append, args := #[x, y], argTypes := #[T, T2] }, ty, pos, after, guard⟩ env L K := fun w hw => by
 obtain ⟨i, zv, hi, hz, hsz, hb, hzs, hpos⟩ := he
 have hrun := zfQ (P := C.P) w T T2 ty e i zv ht htn hi hz A c k (by rw [hsz]; exact hpos) hk hkm (by rw [hb]; exact hby)
 have hrun' : (execOp env.ev ⟨dst, .call { callee := .builtin .append, args := #[x, y], argTypes := #[T, T2] }, ty, pos, after, guard⟩).run C.P w = .ok (.value (.slice (some ⟨w.heap.size, 0, none⟩) k (grownCap w k c e))) (w.drew.alloc (.cells (Builtin.zeroCells zv.cells k ++ Builtin.zeroCells zv.cells (grownCap w k c e - k)) e)) := by
  simp only [execOp, resolve, invoke, builtin, Sem.run_bind, Sem.run_pure, Result.andThen_ok, List.map_toArray, List.map_cons, List.map_nil, hx, hy, hrun]
 rw [hrun']
 have hge := grownCap_ge w k c e
 have hcm : grownCap w k c e ≤ maxLen := grownCap_le_maxLen w k c e hkm
 refine ⟨_, ?_, h w.heap.size (grownCap w k c e) (Builtin.zeroCells zv.cells k ++ Builtin.zeroCells zv.cells (grownCap w k c e - k)).toList hge hcm ?_⟩
 ·have hg : w.grownBy (w.drew.alloc (.cells (Builtin.zeroCells zv.cells k ++ Builtin.zeroCells zv.cells (grownCap w k c e - k)) e)) none := ⟨rfl, rfl, rfl, by simp, fun k hk _ => heap_alloc_old w.drew _ k hk⟩
  have hst := St.of_grown (A' := Blk w.heap.size e (Builtin.zeroCells zv.cells k ++ Builtin.zeroCells zv.cells (grownCap w k c e - k)).toList) hg (by
   show (w.drew.alloc _).heap[w.heap.size]? = _
   rw [Array.toArray_toList]; exact heap_alloc_new w.drew _) (fun b hb => by
    obtain rfl : b = w.heap.size := List.mem_singleton.1 hb
    exact ⟨by simp, .inr (Nat.le_refl _)⟩) (List.pairwise_singleton _ _)
  have hw' : St C.w0 C.M ([] ++ L) w := hw
  exact hw'.frame hst
 ·rw [Array.length_toList, Array.size_append, size_zeroCells, size_zeroCells, hzs, ← Nat.add_mul]
  congr 1; omega
theorem Qt.overlaps {f : FuncId} {fn : Func} {TR T1 T2 : TypeId} {a1 a2 : Operand} {g1 o1 la ca g2 o2 lb cb sz : Nat} {cs1 cs2 : List Value} {tys : Array TypeId} {fo : Operand} (hf : C.P.funcs[f]? = some fn) (hname : (fn.name == "runtime.NumGoroutine") = false) (hb : fn.body.isNone = true) (hn : Extern.findNext fn = none) (he : Extern.find fn = some (Extern.SlicesOverlaps.overlaps #[T, T] #[TR]))
  (ht : C.P.underlying T = some (.slice e)) (hsz : (C.P.info? e).map (·.size) = some sz) (hfo : env.ev fo = .func (.func f) #[] #[]) (h1 : env.ev a1 = .slice (some ⟨g1, o1, none⟩) la ca) (h2 : env.ev a2 = .slice (some ⟨g2, o2, none⟩) lb cb) (hA : Has C L (Blk g1 T1 cs1)) (hB : Has C L (Blk g2 T2 cs2)) (hg : g1 ≠ g2) (hl : cs2.length ≠ 0) :
  Qt C L ⟨dst, .call { callee := .value fo, args := #[a1, a2], argTypes := tys }, ty, pos, after, guard⟩ env (.bool false) := fun w hw => by
 obtain ⟨inf, hin, hs⟩ := Option.map_eq_some_iff.1 hsz
 have k1 : w.heap[g1]? = some (.cells cs1.toArray T1 (0, 0)) := hA w hw
 have k2 : w.heap[g2]? = some (.cells cs2.toArray T2 (0, 0)) := hB w hw
 have hr := Lib.run_overlaps_apart (P := C.P) w T TR e ht sz (fun w => by rw [← hs]; simp [sizeOf, typeInfo, hin]) ⟨g1, o1, none⟩ ⟨g2, o2, none⟩ la ca lb cb hg T1 T2 cs1.length cs2.length (by simp [World.shape?, k1]) (by simp [World.shape?, k2]) hl (by simp [World.frozen?, k1]) (by simp [World.frozen?, k1])
 have hc := run_callFunc_extern hf hname hb hn he #[.slice (some ⟨g1, o1, none⟩) la ca, .slice (some ⟨g2, o2, none⟩) lb cb] w
 rw [hr] at hc
 simp [execOp, resolve, hfo, h1, h2, Deferred.ofValue, invoke, hc]
end Go.E
namespace Go.E
set_option linter.unusedSectionVars false
variable {C : Ctx} {Q : EQ} {env : Env} {L : List Assn} {ops : Array Oper} {E : List Nat × List Nat} {F : List Assn} {dn : List Nat}
def OrK (C : Ctx) (ops : Array Oper) (Q : EQ) (E : List Nat × List Nat) (F : List Assn) (dn : List Nat) (env : Env) (L : List Assn) (k : Nat) (o : Oper) : Prop :=
 (has E.1 k = true ∧ OpV C o env L fun v L' => Sub F L' ∧ AWl C ops Q E F (k :: dn) (env.putO o.dst v) L') ∨
 (has E.1 k = false ∧ has E.2 k = true ∧ OpV C o env L fun v L' => Sub L L' ∧ AWl C ops Q E F (k :: dn) (env.putO o.dst v) L')
theorem AWl.or {k1 k2 : Nat} {o1 o2 : Oper} (s : Sub F L) (ho1 : ops[k1]? = some o1) (ho2 : ops[k2]? = some o2) (hk : zeD ops dn k1 k2 = true) (hr : (zbB dn o1 && (!has dn k1) && zaR ops o1) = true)
    (hd1 : dlt o1.dst C.n = true) (hd2 : dlt o2.dst C.n = true) (hnd1 : zap o1 = false) (hnd2 : zap o2 = false) (hw1 : zaF ops env o1 = true) (hw2 : zaF ops env o2 = true)
    (h1 : OrK C ops Q E F dn env L k1 o1) (h2 : OrK C ops Q E F dn env L k2 o2) : AWl C ops Q E F dn env L := by
  obtain ⟨X, hX⟩ := s
  refine ⟨X, hX, ?_⟩
  have hk0 := hk
  simp only [zeD, Bool.and_eq_true] at hk0
  have hln := zfA hk0.1
  have e : ops.size - dn.length = (ops.size - (dn.length + 1)) + 1 := by omega
  simp only [Bool.and_eq_true] at hr
  have hmem := zeC ho1 hr.1.1 (by simpa using hr.1.2) (zdE hr.2)
  show AW C ops (SubQ Q) E F (ops.size - dn.length) (zaI ops.size dn) env X
  rw [e]
  have go : ∀ k o, ops[k]? = some o → zaF ops env o = true → OrK C ops Q E F dn env L k o → (if zaF ops env o then
        (if has E.1 k then OpV C o env (F ++ X) (fun v L' => ∃ X', Sub (F ++ X') L' ∧ AW C ops (SubQ Q) E F (ops.size - (dn.length + 1)) ((zaI ops.size dn).setIfInBounds k true) (env.putO o.dst v) X')
        else if has E.2 k then OpV C o env (F ++ X) (fun v L' => ∃ X', Sub (F ++ X') L' ∧ Sub X X' ∧ AW C ops (SubQ Q) E F (ops.size - (dn.length + 1)) ((zaI ops.size dn).setIfInBounds k true) (env.putO o.dst v) X')
        else ∃ v, Cal C o env v (F ++ X) ∧ AW C ops (SubQ Q) E F (ops.size - (dn.length + 1)) ((zaI ops.size dn).setIfInBounds k true) (env.putO o.dst v) X)
      else AW C ops (SubQ Q) E F (ops.size - (dn.length + 1)) ((zaI ops.size dn).setIfInBounds k true) (env.putO o.dst undef) X) := by
    rintro k o ho hw (⟨he, h⟩ | ⟨he1, he2, h⟩)
    · rw [if_pos hw, if_pos he, zbR]
      exact (h.sub (Sub.of_perm hX.symm)).mono fun v L' ⟨hs, X', hX', hA⟩ => ⟨X', Sub.of_perm hX', hA⟩
    · rw [if_pos hw, if_neg (by simp [he1]), if_pos he2, zbR]
      exact (h.sub (Sub.of_perm hX.symm)).mono fun v L' ⟨hs, X', hX', hA⟩ => ⟨X', Sub.of_perm hX', Sub.cancel (((Sub.of_perm hX).trans hs).trans (Sub.of_perm hX'.symm)), hA⟩
  refine ⟨(fun h0 => absurd (h0 ▸ hmem) (by simp)), fun i hi o' ho' => ?_⟩
  rcases zga hk i hi with rfl | rfl
  · obtain rfl : o' = o1 := by rw [ho1] at ho'; injection ho' with e; exact e.symm
    exact ⟨hd1, hnd1, go _ _ ho1 hw1 h1⟩
  · obtain rfl : o' = o2 := by rw [ho2] at ho'; injection ho' with e; exact e.symm
    exact ⟨hd2, hnd2, go _ _ ho2 hw2 h2⟩
variable {k1 k2 d1 d2 : Nat} {op1 op2 : Op} {ty1 ty2 : TypeId} {pos1 pos2 : String} {after1 after2 : Array Edge}
theorem D.orNN (s : Sub F L) (ho1 : ops[k1]? = some ⟨some d1, op1, ty1, pos1, after1, none⟩) (ho2 : ops[k2]? = some ⟨some d2, op2, ty2, pos2, after2, none⟩) (hk : zeD ops dn k1 k2 = true) (hr : (zbB dn ⟨some d1, op1, ty1, pos1, after1, none⟩ && (!has dn k1) && zaR ops ⟨some d1, op1, ty1, pos1, after1, none⟩) = true)
  (hd1 : Nat.blt d1 C.n = true) (hd2 : Nat.blt d2 C.n = true) (hnd1 : zap ⟨some d1, op1, ty1, pos1, after1, none⟩ = false) (hnd2 : zap ⟨some d2, op2, ty2, pos2, after2, none⟩ = false)
  (h1 : OpV C ⟨some d1, op1, ty1, pos1, after1, none⟩ env L fun v L' => Sub L L' ∧ AWl C ops Q E F (k1 :: dn) (env.put d1 v) L')
  (h2 : OpV C ⟨some d2, op2, ty2, pos2, after2, none⟩ env L fun v L' => Sub L L' ∧ AWl C ops Q E F (k2 :: dn) (env.put d2 v) L')
  (e1 : has E.1 k1 = false ∧ has E.2 k1 = true := by exact ⟨rfl, rfl⟩) (e2 : has E.1 k2 = false ∧ has E.2 k2 = true := by exact ⟨rfl, rfl⟩) : AWl C ops Q E F dn env L :=
 AWl.or s ho1 ho2 hk hr hd1 hd2 hnd1 hnd2 rfl rfl (.inr ⟨e1.1, e1.2, h1⟩) (.inr ⟨e2.1, e2.2, h2⟩)
theorem D.orNE (s : Sub F L) (ho1 : ops[k1]? = some ⟨some d1, op1, ty1, pos1, after1, none⟩) (ho2 : ops[k2]? = some ⟨some d2, op2, ty2, pos2, after2, none⟩) (hk : zeD ops dn k1 k2 = true) (hr : (zbB dn ⟨some d1, op1, ty1, pos1, after1, none⟩ && (!has dn k1) && zaR ops ⟨some d1, op1, ty1, pos1, after1, none⟩) = true)
  (hd1 : Nat.blt d1 C.n = true) (hd2 : Nat.blt d2 C.n = true) (hnd1 : zap ⟨some d1, op1, ty1, pos1, after1, none⟩ = false) (hnd2 : zap ⟨some d2, op2, ty2, pos2, after2, none⟩ = false)
  (h1 : OpV C ⟨some d1, op1, ty1, pos1, after1, none⟩ env L fun v L' => Sub L L' ∧ AWl C ops Q E F (k1 :: dn) (env.put d1 v) L')
  (h2 : OpV C ⟨some d2, op2, ty2, pos2, after2, none⟩ env L fun v L' => Sub F L' ∧ AWl C ops Q E F (k2 :: dn) (env.put d2 v) L')
  (e1 : has E.1 k1 = false ∧ has E.2 k1 = true := by exact ⟨rfl, rfl⟩) (e2 : has E.1 k2 = true := by rfl) : AWl C ops Q E F dn env L :=
 AWl.or s ho1 ho2 hk hr hd1 hd2 hnd1 hnd2 rfl rfl (.inr ⟨e1.1, e1.2, h1⟩) (.inl ⟨e2, h2⟩)
end Go.E
namespace Go.E
set_option linter.unusedSectionVars false
variable {C : Ctx} {Q : EQ} {env : Env} {L : List Assn}
variable {κ α : Type} [DecidableEq κ] {K E e : TypeId} {enc : κ → Value} {encv : α → Value}
variable {dst : Option Tmp} {ty : TypeId} {pos : String} {after : Array Edge} {guard : Option (Nat × Bool)} {x y z : Operand} {v : Value} {T : TypeId} {b it clock : Nat} {es : Array MapEntry} {ms : List (κ × α)} {k : κ} {a : α} {K' : Value → List Assn → Prop} {done : List κ}
def ItR (it b clock : Nat) (es : Array MapEntry) (enc : κ → Value) (encv : α → Value) (ms : List (κ × α)) (done : List κ) : Assn where
 fp := [it]
 ok w := ∃ ds, w.heap[it]? = some (.mapIter (some b) clock (ds.map (·.born)).toArray clock) ∧ MapInv enc encv ms done es clock ds
 stable w w' h hk := by
  rw [h it (List.mem_cons_self ..)]; exact hk
theorem Ro.raw {w : World} {M : List Nat} (h : Ro w M (MapA b enc encv ms)) : ∃ es clock, Ro w M (IsObj b (.map es clock)) ∧ MapInv enc encv ms [] es clock [] := by
 obtain ⟨⟨es, clock, hb, he, hp, hc, hn⟩, h2⟩ := h
 exact ⟨es, clock, ⟨hb, h2⟩, ⟨he, hp, hc, hn, by simp, by simp⟩⟩
theorem OpV.rangeR (ht : C.P.underlying T = some (.map K E)) (hx : env.ev x = .map (some b)) (hM : Ro C.w0 C.M (MapA b enc encv ms))
  (h : ∀ it clock es, Ro C.w0 C.M (IsObj b (.map es clock)) → K' (.pointer (some ⟨it, 0, none⟩)) (ItR it b clock es enc encv ms [] :: L)) : OpV C ⟨dst, .range T x, ty, pos, after, guard⟩ env L K' := fun w hw => by
 obtain ⟨es, clock, hr, hv⟩ := hM.raw
 have := OpV.range (C := C) (env := env) (L := L) (K := fun v L' => ∃ it, v = .pointer (some ⟨it, 0, none⟩) ∧ L' = zbf it b clock [] :: L) (dst := dst) (ty := ty) (pos := pos) (after := after) (guard := guard) ht hx (Has.ro hr) (fun it => ⟨it, rfl, rfl⟩)
 refine (this w hw).mono ?_
 rintro v w' ⟨L', hs, it, rfl, rfl⟩
 refine ⟨_, ?_, h it clock es hr⟩
 have h1 : St C.w0 C.M ([] ++ [zbf it b clock []] ++ L) w' := by simpa using hs
 have h2 := h1.conv (N' := [ItR it b clock es enc encv ms []]) (by simp [fps, zbf, IsObj.fp, ItR]) (by
  intro A hA
  simp only [List.mem_singleton] at hA
  subst hA
  exact ⟨[], h1.ok (A := zbf it b clock []) (by simp), hv⟩)
 simpa using h2
theorem OpV.nextR {L1 L2 : List Assn} (inj : ∀ a b, enc a = enc b → a = b) (hr : Ro C.w0 C.M (IsObj b (.map es clock))) (hx : env.ev x = .pointer (some ⟨it, 0, none⟩))
  (h0 : (∀ p ∈ ms, p.1 ∈ done) → K' (.tuple #[.bool false]) (L1 ++ ItR it b clock es enc encv ms done :: L2))
  (h1 : ∀ k a, (k, a) ∈ ms → k ∉ done → K' (.tuple #[.bool true, enc k, encv a]) (L1 ++ ItR it b clock es enc encv ms (done ++ [k]) :: L2)) :
  OpV C ⟨dst, .next x false, ty, pos, after, guard⟩ env (L1 ++ ItR it b clock es enc encv ms done :: L2) K' := fun w hw => by
 obtain ⟨ds, hi, hv⟩ := hw.ok (A := ItR it b clock es enc encv ms done) (List.mem_append.2 (.inr (List.mem_cons_self ..)))
 have hst0 : St C.w0 C.M (L1 ++ [ItR it b clock es enc encv ms done] ++ L2) w := by simpa using hw
 have hst := hst0.conv (N' := [zbf it b clock ds]) (by simp [fps, zbf, IsObj.fp, ItR]) (by
  intro A hA
  simp only [List.mem_singleton] at hA
  subst hA
  exact hi)
 have hst2 : St C.w0 C.M (L1 ++ zbf it b clock ds :: L2) w := by simpa using hst
 have back : ∀ {w' : World} {ds' : List MapEntry} {done' : List κ}, St C.w0 C.M (L1 ++ zbf it b clock ds' :: L2) w' → MapInv enc encv ms done' es clock ds' → St C.w0 C.M (L1 ++ ItR it b clock es enc encv ms done' :: L2) w' := by
  intro w' ds' done' h hv'
  have h1 : St C.w0 C.M (L1 ++ [zbf it b clock ds'] ++ L2) w' := by simpa using h
  have h2 := h1.conv (N' := [ItR it b clock es enc encv ms done']) (by simp [fps, zbf, IsObj.fp, ItR]) (by
   intro A hA
   simp only [List.mem_singleton] at hA
   subst hA
   exact ⟨ds', h1.ok (A := zbf it b clock ds') (by simp), hv'⟩)
  simpa using h2
 have := OpV.nextG (C := C) (env := env) (L1 := L1) (L2 := L2) (i := it) (m := b) (clock := clock) (es := es) (ds := ds) (dst := dst) (ty := ty) (pos := pos) (after := after) (guard := guard)
  (K := fun v L' => ((∀ p ∈ ms, p.1 ∈ done) ∧ v = .tuple #[.bool false] ∧ L' = L1 ++ zbf it b clock ds :: L2) ∨
   (∃ e k a, e ∈ es.toList ∧ e.key = enc k ∧ (k, a) ∈ ms ∧ k ∉ done ∧ v = .tuple #[.bool true, enc k, encv a] ∧ L' = L1 ++ zbf it b clock (ds ++ [e]) :: L2)) hx (Has.ro hr) hv.lt
  (fun hall => .inl ⟨fun p hp => by
   obtain ⟨e, he, hk, _⟩ := zeL hv.ents hp
   obtain ⟨k, hk', h2⟩ := (hv.seen e he).1 (hall e he)
   rw [hk] at h2
   exact inj _ _ h2 ▸ hk', rfl, rfl⟩)
  (fun e he hno => by
   obtain ⟨p, hp, h1, h2⟩ := zif hv.ents he
   exact .inr ⟨e, p.1, p.2, he, h1, hp, fun hd => hno ((hv.seen e he).2 ⟨p.1, hd, h1⟩), by rw [h1, h2], rfl⟩)
 refine (this w hst2).mono ?_
 rintro v w' ⟨L', hs, ⟨hall, rfl, rfl⟩ | ⟨e, k, a, he, hk, hm, hd, rfl, rfl⟩⟩
 ·exact ⟨_, back hs hv, h0 hall⟩
 ·exact ⟨_, back hs (hv.step inj he hk), h1 k a hm hd⟩
theorem Qt.entryR {done : List κ} (hr : Ro C.w0 C.M (IsObj b (.map es clock))) (hx : env.ev x = .pointer (some ⟨it, 0, none⟩)) (h : Has C L (ItR it b clock es enc encv ms (done ++ [k]))) (hm : (k, a) ∈ ms) :
  Qt C L ⟨dst, .entry x, ty, pos, after, guard⟩ env (.tuple #[enc k, encv a]) := fun w hw => by
 obtain ⟨ds, hi, hv⟩ := h w hw
 have hb : w.heap[b]? = some (.map es clock) := hr.at hw
 obtain ⟨e, he, hk, ha⟩ := zeL hv.ents hm
 obtain ⟨ds', e', rfl, hbn⟩ := hv.last _ _ rfl e he hk
 have hgi := zcB (P := C.P) (by intro c t f e; cases e) hi
 have hback : (((ds' ++ [e']).map (·.born)).toArray).back? = some e.born := by simp [hbn]
 have hfind : es.find? (fun x => x.born == e.born) = some e := by
  rw [← Array.find?_toList]
  exact zgf hv.pw he
 simp only [execOp, hx, Instr.entry, Sem.run_bind, hgi, Result.andThen_ok, hback, zaV hb, bne_self_eq_false, Bool.false_eq_true, if_false, Sem.run_pure, hfind, hk, ha]
theorem OpV.nextR0 {R : List Assn} (inj : ∀ a b, enc a = enc b → a = b) (hr : Ro C.w0 C.M (IsObj b (.map es clock))) (hx : env.ev x = .pointer (some ⟨it, 0, none⟩))
  (h0 : (∀ p ∈ ms, p.1 ∈ done) → K' (.tuple #[.bool false]) (ItR it b clock es enc encv ms done :: R))
  (h1 : ∀ k a, (k, a) ∈ ms → k ∉ done → K' (.tuple #[.bool true, enc k, encv a]) (ItR it b clock es enc encv ms (done ++ [k]) :: R)) :
  OpV C ⟨dst, .next x false, ty, pos, after, guard⟩ env (ItR it b clock es enc encv ms done :: R) K' := OpV.nextR (L1 := []) inj hr hx h0 h1
end Go.E
namespace Go.E
set_option linter.unusedSectionVars false
variable {C : Ctx} {Q : EQ} {env : Env} {L : List Assn} {α : Type}
def Gen2 (P : Program) (gf : FuncId) (cap : Array Value) (enc : α → List Value) (S Sp Pf : List α → Prop) (w : World) (L : List Assn) : Prop :=
 ∀ (l : Nat) (J : Bool → List α → List Assn → Prop), J true [] L →
  (∀ pre x w' L', Pf (pre ++ [x]) → J true pre L' → St w (fps L) L' w' → YieldAt Fence.wide 0 P l (enc x).toArray w' fun e w'' => ∃ L'', St w' (fps L') L'' w'' ∧
   ((e = .returned (.bool true) ∧ J true (pre ++ [x]) L'') ∨ (e = .returned (.bool false) ∧ J false (pre ++ [x]) L''))) →
  Calls P gf (#[.func (.yield l) #[] #[]] ++ cap) w (Post w (fps L) fun v L' => (∃ xs, S xs ∧ J true xs L') ∨ (∃ pre, Sp pre ∧ J false pre L'))
theorem TC.rangeFunc2 {g : Operand} {ps : Array Tmp} {assign body : Code} {gf : FuncId} {cap : Array Value} (enc : α → List Value) (S Sp Pf : List α → Prop) (J : List α → List Assn → Prop) (Jx : Code → List α → List Assn → Prop) {L0 R : List Assn}
  (hr : C.r = none) (hg : env.ev g = .func (.func gf) #[] cap) (he : zae C.P gf) (hps : ps.toList.all (fun p => Nat.blt p C.n) = true) (hsz : ∀ x, (enc x).length = ps.size) (hL : L.Perm (L0 ++ R)) (h0 : J [] L0)
  (hgen : ∀ w L', St C.w0 C.M (L' ++ R) w → Gen2 C.P gf cap enc S Sp Pf w L')
  (hround : ∀ (w' : World) (l D : Nat) (Rr Rb : Assn) (pre : List α) (x : α) (L' : List Assn), Pf (pre ++ [x]) → J pre L' → St C.w0 C.M ((Rr :: dfA D :: L') ++ R) w' →
   TC ⟨C.P, C.n, w', fps (Rr :: dfA D :: L'), some l⟩ assign (znK ⟨C.P, C.n, w', fps (Rr :: dfA D :: L'), some l⟩ body Rr Rb D J Jx (pre ++ [x])) (envP env ps.toList (enc x)) (Rr :: dfA D :: L'))
  (hdone : ∀ D xs L', S xs → J xs L' → Q .normal (env.mark D) (dfA D :: (L' ++ R)))
  (hstop : ∀ D c pre L', Sp pre → Jx c pre L' → TC C c Q (env.mark D) (dfA D :: (L' ++ R))) : TC C (.rangeFunc g ps assign body) Q env L := by
 intro a w ha hw
 refine wpIn_rangeFunc ?_
 intro fn hfn
 obtain ⟨D, hD⟩ : ∃ D, D = w.heap.size := ⟨_, rfl⟩
 obtain ⟨rec, hrec⟩ : ∃ rec : LoopState → Option Code → Loop, rec = fun st pe => { state := st, pending := pe, fn, tmps := a.tmps, params := ps, assign, body, defers := w.heap.size } := ⟨_, rfl⟩
 have hpend : ∀ st pe, (rec st pe).pending = pe := fun st pe => by rw [hrec]
 have hstate : ∀ st pe, (rec st pe).state = st := fun st pe => by rw [hrec]
 have hpar : ∀ st pe, (rec st pe).params = ps := fun st pe => by rw [hrec]
 have hwith : ∀ st pe st' pe', ({ rec st pe with state := st', pending := pe' } : Loop) = rec st' pe' := fun st pe st' pe' => by rw [hrec]
 obtain ⟨W1, hW1⟩ : ∃ W1, (w.alloc (.deferred (some []))).alloc (.loop (rec .ready none)) = W1 := ⟨_, rfl⟩
 have hw0 : St C.w0 C.M (L0 ++ R) w := hw.perm hL
 have hst1 : St C.w0 C.M (IsObj (D + 1) (.loop (rec .ready none)) :: dfA D :: (L0 ++ R)) W1 := by
  have h := (hw0.alloc (.deferred (some []))).alloc (.loop (rec .ready none))
  rw [World.size_alloc, hW1, ← hD] at h
  exact h
 have hfr : (FW C.r).round = none := hr
 rw [hfr]
 have hev : a.eval g = .func (.func gf) #[] cap := by rw [ha.ev]; exact hg
 refine ⟨w.heap.size + 1, [ziW w.heap.size], W1, { target := .fn (.func gf) cap, args := #[.func (.yield (w.heap.size + 1)) #[] #[]] }, W1, gf,
  #[.func (.yield (w.heap.size + 1)) #[] #[]] ++ cap, W1, ?_, ?_, fun _ _ => trivial, ?_, (fun h => Bool.noConfusion h), ?_⟩
 ·rw [← hW1, hrec]; exact run_enterLoop_outer _ _ _ _ _
 ·simp only [resolve, hev]
  simp [go_sem]
 ·simp [invoke, go_sem, zdG he]
 ·refine zfe ?_
  have hsat : St C.w0 C.M ((IsObj (D + 1) (.loop (rec .ready none)) :: dfA D :: L0) ++ R) W1 := hst1
  have hrun := hgen W1 _ hsat (D + 1)
   (fun b pre L'' => if b then ∃ L', L'' = IsObj (D + 1) (.loop (rec .ready none)) :: dfA D :: L' ∧ J pre L' else ∃ c L', L'' = IsObj (D + 1) (.loop (rec .done (some c))) :: dfA D :: L' ∧ Jx c pre L')
   (by simp only [if_true]; exact ⟨L0, rfl, h0⟩) ?_
  ·rw [hD] at hrun
   refine hrun.mono ?_
   rintro e w3 ⟨v, L'', rfl, hs, hcase⟩
   rw [← hD] at hs hcase ⊢
   have hs2 := hsat.frame hs
   rcases hcase with ⟨xs, hS, hJ⟩ | ⟨pre, hSp, hJ⟩
   ·simp only [if_true] at hJ
    obtain ⟨L', rfl, hJ⟩ := hJ
    have hl : w3.heap[D + 1]? = some (.loop (rec .ready none)) := hs2.ok (A := IsObj (D + 1) _) (List.mem_cons_self ..)
    have hrun2 := run_endLoop (P := C.P) hl (by rw [hstate]; simp)
    refine ⟨none, _, hrun2.trans (by rw [hpend]), ?_⟩
    exact ⟨env.mark D, _, ⟨by show ziW D :: a.defers = _; rw [ha.1]; rfl, ha.2.1, ha.2.2⟩, (St.putObj (L := dfA D :: (L' ++ R)) hs2 _).sub (Sub.drop _ (Sub.refl _)), hdone D xs L' hS hJ⟩
   ·simp only [Bool.false_eq_true, if_false] at hJ
    obtain ⟨c, L', rfl, hJ⟩ := hJ
    have hl : w3.heap[D + 1]? = some (.loop (rec .done (some c))) := hs2.ok (A := IsObj (D + 1) _) (List.mem_cons_self ..)
    have hrun2 := run_endLoop (P := C.P) hl (by rw [hstate]; simp)
    refine ⟨some c, _, hrun2.trans (by rw [hpend]), ?_⟩
    exact hstop D c pre L' hSp hJ _ _ ⟨by show ziW D :: a.defers = _; rw [ha.1]; rfl, ha.2.1, ha.2.2⟩ ((St.putObj (L := dfA D :: (L' ++ R)) hs2 _).sub (Sub.drop _ (Sub.refl _)))
  ·rintro pre x w' L'' hPf hJ hst
   simp only [if_true] at hJ
   obtain ⟨L', rfl, hJ⟩ := hJ
   have hst' := hsat.frame hst
   have hl : w'.heap[D + 1]? = some (.loop (rec .ready none)) := hst'.ok (A := IsObj (D + 1) _) (List.mem_cons_self ..)
   have hy := run_yield (P := C.P) (args := (enc x).toArray) hl (by rw [hrec]; simp [hsz])
   have hbody := hround w' (D + 1) D (IsObj (D + 1) (.loop (rec .ready none))) (IsObj (D + 1) (.loop (rec .busy none))) pre x L' hPf hJ hst'
   rw [hrec] at hy
   refine ⟨fn, _, assign, body, hy, roundIn_of_wpIn trivial ?_⟩
   have hfit : Fits C.n { tmps := (ps.zip (enc x).toArray).foldl (fun tmps (t, a) => tmps.setIfInBounds t a) a.tmps, defers := [] } (envP env ps.toList (enc x)) := by
    have h := Fits.params ps.toList (enc x) a.tmps env ha.2.1 ha.2.2 hps
    have hz : (ps.zip (enc x).toArray).foldl (fun tmps (t, a) => tmps.setIfInBounds t a) a.tmps = (ps.toList.zip (enc x)).foldl (fun (t : Array Value) (q : Nat × Value) => t.setIfInBounds q.1 q.2) a.tmps := by
     rw [← Array.foldl_toList, Array.toList_zip]
    rw [hz]
    exact ⟨rfl, h.1, h.2⟩
   refine wpIn_mono (hbody _ w' hfit (St.start hst'.sat.left)) ?_
   rintro e1 a1 w1 ⟨e, L1, hf1, hs1, hq1⟩
   cases e1 with
   | normal =>
    obtain ⟨L2, hsub, hb⟩ := hq1
    have hs2 := hs1.sub hsub
    have hl1 : w1.heap[D + 1]? = some (.loop (rec .ready none)) := hs2.ok (A := IsObj (D + 1) _) (List.mem_cons_self ..)
    refine ⟨_, run_beginRound hl1 (by rw [hrec]), ?_⟩
    have hs3 := St.putObj hs2 (.loop { rec .ready none with state := .busy })
    have hbz : ({ rec .ready none with state := .busy } : Loop) = rec .busy none := by rw [hrec]
    rw [hbz] at hs3 ⊢
    refine wpIn_mono (hb _ _ hf1 hs3) ?_
    have fin : ∀ (jump : Option Code) (w3 : World) (L3 L4 : List Assn), St w' (fps (IsObj (D + 1) (.loop (rec .ready none)) :: dfA D :: L')) L3 w3 → Sub (IsObj (D + 1) (.loop (rec .busy none)) :: dfA D :: L4) L3 →
      ∃ w4, (Instr.endRound (D + 1) jump).run C.P w3 = .ok (.bool jump.isNone) w4 ∧ St w' (fps (IsObj (D + 1) (.loop (rec .ready none)) :: dfA D :: L')) (IsObj (D + 1) (.loop (rec (if jump.isNone then .ready else .done) jump)) :: dfA D :: L4) w4 := by
     intro jump w3 L3 L4 h3 hsb
     have h4 := h3.sub hsb
     have hl3 : w3.heap[D + 1]? = some (.loop (rec .busy none)) := h4.ok (A := IsObj (D + 1) _) (List.mem_cons_self ..)
     have hrun := run_endRound (P := C.P) jump (by rw [hrec] at hl3; exact hl3)
     refine ⟨_, hrun, ?_⟩
     have := St.putObj h4 (.loop (rec (if jump.isNone then .ready else .done) jump))
     rw [hrec] at this ⊢
     exact this
    rintro e2 a2 w3 ⟨e', L3, hf3, hs4, hq3⟩
    cases e2 with
    | normal =>
     obtain ⟨L4, hsb, hj⟩ := hq3
     obtain ⟨w4, hr4, hs5⟩ := fin none w3 L3 L4 hs4 hsb
     exact ⟨_, w4, hr4, _, hs5, .inl ⟨rfl, by simp only [if_true]; exact ⟨L4, rfl, hj⟩⟩⟩
    | ret =>
     obtain ⟨L4, hsb, hj⟩ := hq3
     obtain ⟨w4, hr4, hs5⟩ := fin (some .ret) w3 L3 L4 hs4 hsb
     exact ⟨_, w4, hr4, _, hs5, .inr ⟨rfl, by simp only [Bool.false_eq_true, if_false]; exact ⟨.ret, L4, rfl, hj⟩⟩⟩
    | exit id =>
     obtain ⟨L4, hsb, hj⟩ := hq3
     obtain ⟨w4, hr4, hs5⟩ := fin (some (.exit id)) w3 L3 L4 hs4 hsb
     exact ⟨_, w4, hr4, _, hs5, .inr ⟨rfl, by simp only [Bool.false_eq_true, if_false]; exact ⟨.exit id, L4, rfl, hj⟩⟩⟩
    | goto t => exact hq3.elim
    | panic ch => exact hq3.elim
    | outgrown => exact hq3.elim
   | ret => exact hq1.elim
   | exit id => exact hq1.elim
   | goto t => exact hq1.elim
   | panic ch => exact hq1.elim
   | outgrown => exact hq1.elim
end Go.E
namespace Go.E
theorem OpV.yield2 {C : Ctx} {env : Env} {α : Type} {dst : Option Tmp} {ty : TypeId} {pos : String} {after : Array Edge} {guard : Option (Nat × Bool)} {f : Operand} {args : Array Operand} {tys : Array TypeId} {K : Value → List Assn → Prop} {enc : α → List Value} {l : Nat} {J : Bool → List α → List Assn → Prop} {pre : List α} (x : α) {L1 L' : List Assn}
  (hY : ∀ w' L', J true pre L' → St C.w0 C.M L' w' → YieldAt Fence.wide 0 C.P l (enc x).toArray w' fun e w'' => ∃ L'', St w' (fps L') L'' w'' ∧
   ((e = .returned (.bool true) ∧ J true (pre ++ [x]) L'') ∨ (e = .returned (.bool false) ∧ J false (pre ++ [x]) L'')))
  (hx : env.ev f = .func (.yield l) #[] #[]) (ha : args.toList.map env.ev = enc x) (hJ : J true pre L')
  (ht : ∀ L'', J true (pre ++ [x]) L'' → K (.bool true) (L1 ++ L'')) (hf : ∀ L'', J false (pre ++ [x]) L'' → K (.bool false) (L1 ++ L'')) :
  OpV C ⟨dst, .call { callee := .value f, args := args, argTypes := tys }, ty, pos, after, guard⟩ env (L1 ++ L') K := fun w hw => by
 have hp : St C.w0 C.M (L' ++ L1) w := hw.perm List.perm_append_comm
 obtain ⟨fn, tmps, assign, body, hy, hR⟩ := hY w L' hJ hp.left
 have hargs : args.map env.ev = (enc x).toArray := by
  apply Array.ext'
  rw [Array.toList_map, ha]
 have hrun : (execOp env.ev ⟨dst, .call { callee := .value f, args := args, argTypes := tys }, ty, pos, after, guard⟩).run C.P w = .ok (.round l fn tmps assign body) w := by
  simp [execOp, resolve, invoke, hx, hargs, Deferred.ofValue, hy]
 rw [hrun]
 show RoundIn (FW C.r) 0 C.P l fn tmps assign body w _
 have hR' : RoundIn (FW C.r) 0 C.P l fn tmps assign body w _ := hR
 refine hR'.mono ?_
 rintro e w'' ⟨L'', hs, ⟨rfl, hj⟩ | ⟨rfl, hj⟩⟩
 ·exact ⟨_, rfl, _, (hp.frame hs).perm List.perm_append_comm, ht L'' hj⟩
 ·exact ⟨_, rfl, _, (hp.frame hs).perm List.perm_append_comm, hf L'' hj⟩
end Go.E
