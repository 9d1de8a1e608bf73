/-
  The program logic, fourth part: memory, calls, a function's entry and its results.
-/
import Derived.Test.YtlneklemjfefpaaDoorEC
import Derived.Deep.MidRow
import Derived.Laws.CopyRow
import Derived.Maps.AppendAt
import Derived.RangeFuncLeaves
import Derived.RangeFuncRecord
namespace Go.E
set_option linter.unusedVariables false
variable {C : Ctx} {Q : EQ} {env : Env} {L : List Assn} {ops : Array Oper} {rest : List Oper}

/-! ### what is known of a block -/
/-- Block b is this object. -/
def IsObj (b : Nat) (o : Obj) : Assn := ⟨[b], fun w => w.heap[b]? = some o, fun w w' h hk => (h b (List.mem_cons_self ..)).trans hk⟩
/-- Block b holds just these cells, of element type T, none frozen. -/
def Blk (b : Nat) (T : TypeId) (cs : List Value) : Assn := IsObj b (.cells cs.toArray T (0, 0))
def vl : Value → List Value
  | .agg cs => cs.toList
  | v => [v]
theorem vl_cells (v : Value) : v.cells = (vl v).toArray := by cases v <;> simp [Value.cells, vl]
theorem vl_length (v : Value) : v.cells.size = (vl v).length := by rw [vl_cells]; simp
theorem IsObj.fp {b : Nat} {o : Obj} : (IsObj b o).fp = [b] := rfl
theorem Blk.fp {b : Nat} {T : TypeId} {cs : List Value} : (Blk b T cs).fp = [b] := rfl

/-- Known in every world of this kind. -/
def Has (C : Ctx) (L : List Assn) (A : Assn) : Prop := ∀ w, St C.w0 C.M L w → A.ok w
theorem Has.mem {A : Assn} (h : A ∈ L) : Has C L A := fun w hw => hw.ok h
theorem Has.ro {A : Assn} (h : Ro C.w0 C.M A) : Has C L A := fun w hw => h.at hw
theorem Has.at {A : Assn} (i : Nat) (h : L[i]? = some A) : Has C L A := Has.mem (List.mem_of_getElem? h)

/-- A load of type T at this place gives v. -/
def Ld (C : Ctx) (L : List Assn) (A : Option Addr) (T : TypeId) (v : Value) : Prop := ∀ w, St C.w0 C.M L w → ∃ p, A = some p ∧ (loadVar T p).run C.P w = .ok v w

def oneT (P : Program) (T : TypeId) : Bool := match P.underlying T with
  | some (.struct _) | some (.array _ _) | none => false
  | some _ => true
def rowT (P : Program) (T : TypeId) : Bool := match P.underlying T with
  | some (.struct _) | some (.array _ _) => true
  | _ => false
theorem run_isAgg_one {P : Program} {T : TypeId} {w : World} (h : oneT P T = true) : (isAgg T).run P w = .ok false w := by
  unfold oneT at h
  cases hu : P.underlying T with
  | none => simp [hu] at h
  | some d =>
    unfold isAgg
    rw [Sem.run_bind, run_underlying hu w]
    cases d <;> simp_all
theorem run_isAgg_row {P : Program} {T : TypeId} {w : World} (h : rowT P T = true) : (isAgg T).run P w = .ok true w := by
  unfold rowT at h
  cases hu : P.underlying T with
  | none => simp [hu] at h
  | some d =>
    unfold isAgg
    rw [Sem.run_bind, run_underlying hu w]
    cases d <;> simp_all
theorem run_loadVar_one {P : Program} {T : TypeId} {w : World} {p : Addr} {v : Value} (h : oneT P T = true) (hc : w.cell? p = some v) : (loadVar T p).run P w = .ok v w := by
  unfold loadVar
  rw [Sem.run_bind, run_isAgg_one h]
  simp [hc]
theorem run_loadVar_rowE {P : Program} {T : TypeId} {w : World} {p : Addr} {cs : List Value} (h : rowT P T = true) (hs : (P.info? T).map (·.size) = some cs.length)
    (hc : ∀ j v, cs[j]? = some v → w.cell? (p.add j) = some v) : (loadVar T p).run P w = .ok (.agg cs.toArray) w := by
  obtain ⟨i, hi, hsz⟩ := Option.map_eq_some_iff.1 hs
  unfold loadVar
  rw [Sem.run_bind, run_isAgg_row h]
  simp [sizeOf, typeInfo, hi, hsz, run_loadCells_list (P := P) w p cs hc]
theorem cell_of_blk {w : World} {b o : Nat} {T : TypeId} {cs : List Value} (h : (Blk b T cs).ok w) : w.cell? ⟨b, o, none⟩ = cs[o]? := by
  have h' : w.heap[b]? = some (.cells cs.toArray T (0, 0)) := h
  simp [World.cell?, h']
theorem add_cell (b o j : Nat) : (⟨b, o, none⟩ : Addr).add j = ⟨b, o + j, none⟩ := Addr.add_mid b o j
theorem Ld.one {b o : Nat} {T T' : TypeId} {cs : List Value} {v : Value} (h : Has C L (Blk b T' cs)) (hT : oneT C.P T = true) (hv : cs[o]? = some v) : Ld C L (some ⟨b, o, none⟩) T v := fun w hw =>
  ⟨_, rfl, run_loadVar_one hT ((cell_of_blk (h w hw)).trans hv)⟩
theorem Ld.row {b o : Nat} {T T' : TypeId} {cs vs : List Value} (h : Has C L (Blk b T' cs)) (hT : rowT C.P T = true) (hs : (C.P.info? T).map (·.size) = some vs.length) (hv : ∀ j v, vs[j]? = some v → cs[o + j]? = some v) :
    Ld C L (some ⟨b, o, none⟩) T (.agg vs.toArray) := fun w hw =>
  ⟨_, rfl, run_loadVar_rowE hT hs fun j v hj => by rw [add_cell, cell_of_blk (h w hw)]; exact hv j v hj⟩
theorem Ld.all {b : Nat} {T T' : TypeId} {vs : List Value} (h : Has C L (Blk b T' vs)) (hT : rowT C.P T = true) (hs : (C.P.info? T).map (·.size) = some vs.length) :
    Ld C L (some ⟨b, 0, none⟩) T (.agg vs.toArray) := Ld.row h hT hs fun j v hj => by simpa using hj

section ops
variable {dst : Option Tmp} {ty : TypeId} {pos : String} {after : Array Edge} {guard : Option (Nat × Bool)} {x y z : Operand} {v : Value} {T : TypeId}
theorem Qt.load {A : Option Addr} (hx : env.ev x = .pointer A) (h : Ld C L A T v) : Qt C L ⟨dst, .load T x, ty, pos, after, guard⟩ env v := fun w hw => by
  obtain ⟨p, rfl, hp⟩ := h w hw
  simp [execOp, hx, Instr.loadAt, Instr.sureAddr, hp]
theorem Qt.field {fs : Array Field} {f : Field} {i b o sz : Nat} (hT : C.P.underlying T = some (.struct fs)) (hf : fs[i]? = some f) (hs : (C.P.info? f.type).map (·.size) = some (sz + 1)) (hx : env.ev x = .pointer (some ⟨b, o, none⟩)) :
    Qt C L ⟨dst, .fieldAddr T x i, ty, pos, after, guard⟩ env (.pointer (some ⟨b, o + f.offset, none⟩)) := fun w hw => by
  obtain ⟨inf, hin, hsz⟩ := Option.map_eq_some_iff.1 hs
  simp [execOp, hx, Instr.fieldAt, Instr.sureAddr, run_underlying hT, hf, fieldPlace, sizeOf, typeInfo, hin, hsz, add_cell]
end ops

/-! ### a slice that is read -/
theorem add_block (a : Addr) (n : Nat) : (a.add n).block = a.block := by unfold Addr.add; split <;> rfl
theorem add_add (a : Addr) (i j : Nat) : (a.add i).add j = a.add (i + j) := by
  unfold Addr.add
  by_cases hi : i = 0 <;> by_cases hj : j = 0 <;> simp [hi, hj, Nat.add_assoc]
/-- The cells cs lie from A on. -/
def SlA (A : Option Addr) (cs : List Value) : Assn where
  fp := match A, cs with
    | some a, _ :: _ => [a.block]
    | _, _ => []
  ok w := ∀ j u, cs[j]? = some u → ∃ a, A = some a ∧ w.cell? (a.add j) = some u
  stable w w' h hk j u hj := by
    obtain ⟨a, rfl, hc⟩ := hk j u hj
    refine ⟨a, rfl, ?_⟩
    cases cs with
    | nil => simp at hj
    | cons c cs =>
      have hb := h a.block (List.mem_cons_self ..)
      rw [World.cell?_of_block (w := w) (by rw [add_block]; exact hb)]
      exact hc
theorem SlA.cut {A : Option Addr} {cs : List Value} {w : World} (h : (SlA A cs).ok w) {c l k : Nat} (hc : c = l → cs.length ≤ k) : (SlA (if c = l then A else A.map (·.add k)) (cs.drop k)).ok w := by
  intro j u hj
  rw [List.getElem?_drop] at hj
  obtain ⟨a, rfl, hu⟩ := h _ u hj
  by_cases he : c = l
  · have := hc he
    rw [List.getElem?_eq_none (by omega)] at hj; cases hj
  · rw [if_neg he]
    exact ⟨a.add k, rfl, by rw [add_add]; exact hu⟩
theorem SlA.take {A : Option Addr} {cs : List Value} {w : World} (h : (SlA A cs).ok w) (k : Nat) : (SlA A (cs.take k)).ok w := by
  intro j u hj
  rw [List.getElem?_take] at hj
  split at hj
  · exact h j u hj
  · cases hj
theorem Has.cut {A : Option Addr} {cs : List Value} (h : Has C L (SlA A cs)) {c l k : Nat} (hc : c = l → cs.length ≤ k) : Has C L (SlA (if c = l then A else A.map (·.add k)) (cs.drop k)) := fun w hw => SlA.cut (h w hw) hc
theorem Has.take {A : Option Addr} {cs : List Value} (h : Has C L (SlA A cs)) (k : Nat) : Has C L (SlA A (cs.take k)) := fun w hw => SlA.take (h w hw) k
theorem Ld.sl {A : Option Addr} {cs : List Value} {T : TypeId} {k : Nat} {v : Value} (h : Has C L (SlA A cs)) (hT : oneT C.P T = true) (hv : cs[k]? = some v) : Ld C L (A.map (·.add k)) T v := fun w hw => by
  obtain ⟨a, rfl, hu⟩ := h w hw k v hv
  exact ⟨_, rfl, run_loadVar_one hT hu⟩
theorem Ld.slr {A : Option Addr} {cs : List Value} {T : TypeId} {k : Nat} {vs : List Value} (h : Has C L (SlA A cs)) (hT : rowT C.P T = true) (hs : (C.P.info? T).map (·.size) = some vs.length) (hl : 0 < vs.length) (hv : ∀ j v, vs[j]? = some v → cs[k + j]? = some v) :
    Ld C L (A.map (·.add k)) T (.agg vs.toArray) := fun w hw => by
  obtain ⟨a, rfl, _⟩ := h w hw _ _ (hv 0 _ (List.getElem?_eq_getElem hl))
  refine ⟨_, rfl, run_loadVar_rowE hT hs fun j v hj => ?_⟩
  obtain ⟨a', e, hu⟩ := h w hw _ _ (hv j v hj)
  injection e with e
  subst e
  rw [add_add]
  exact hu
section ops
variable {dst : Option Tmp} {ty : TypeId} {pos : String} {after : Array Edge} {guard : Option (Nat × Bool)} {x y z : Operand} {v : Value} {T : TypeId}
theorem Qt.index {e : TypeId} {A : Option Addr} {N c i sz : Nat} {ki : IntKind} {cs : List Value} (ht : C.P.underlying T = some (.slice e)) (hsz : (C.P.info? e).map (·.size) = some sz) (hx : env.ev x = .slice A N c) (hy : env.ev y = .int ki (i : Int)) (hi : i < N)
    (h : Has C L (SlA A cs)) (hc : i * sz < cs.length) : Qt C L ⟨dst, .indexAddr T x y, ty, pos, after, guard⟩ env (.pointer (A.map (·.add (i * sz)))) := fun w hw => by
  obtain ⟨inf, hin, hs⟩ := Option.map_eq_some_iff.1 hsz
  obtain ⟨a, rfl, _⟩ := h w hw _ _ (List.getElem?_eq_getElem hc)
  simp [execOp, hx, hy, Instr.indexAt, asIntOf, run_underlying ht, sizeOf, typeInfo, hin, hs, hi]
theorem Qt.slice_lo {e : TypeId} {A : Option Addr} {N c l sz : Nat} {ki : IntKind} (ht : C.P.underlying T = some (.slice e)) (hsz : (C.P.info? e).map (·.size) = some sz) (hx : env.ev x = .slice A N c) (hy : env.ev y = .int ki (l : Int)) (hl : l ≤ N) :
    Qt C L ⟨dst, .slice T x (some y) none none, ty, pos, after, guard⟩ env (.slice (if c = l then A else A.map (·.add (l * sz))) (N - l) (c - l)) := fun w hw => by
  obtain ⟨inf, hin, hs⟩ := Option.map_eq_some_iff.1 hsz
  simp [execOp, hx, hy, Instr.sliceAt, Instr.slice, Instr.sliceBounds, Instr.sliceBound, asIntOf, run_underlying ht, sizeOf, typeInfo, hin, hs, hl]
theorem Qt.slice_hi {e : TypeId} {A : Option Addr} {N c h sz : Nat} {ki : IntKind} (ht : C.P.underlying T = some (.slice e)) (hsz : (C.P.info? e).map (·.size) = some sz) (hx : env.ev x = .slice A N c) (hy : env.ev y = .int ki (h : Int)) (hl : h ≤ c) :
    Qt C L ⟨dst, .slice T x none (some y) none, ty, pos, after, guard⟩ env (.slice A h c) := fun w hw => by
  obtain ⟨inf, hin, hs⟩ := Option.map_eq_some_iff.1 hsz
  have h0 : A.map (fun a => a.add 0) = A := by cases A <;> simp [Addr.add]
  simp [execOp, hx, hy, Instr.sliceAt, Instr.slice, Instr.sliceBounds, Instr.sliceBound, asIntOf, run_underlying ht, sizeOf, typeInfo, hin, hl, h0]
theorem Qt.slice_lohi {e : TypeId} {A : Option Addr} {N c l h sz : Nat} {ki kj : IntKind} (ht : C.P.underlying T = some (.slice e)) (hsz : (C.P.info? e).map (·.size) = some sz) (hx : env.ev x = .slice A N c) (hy : env.ev y = .int ki (l : Int)) (hz : env.ev z = .int kj (h : Int)) (hl : l ≤ h) (hh : h ≤ c) :
    Qt C L ⟨dst, .slice T x (some y) (some z) none, ty, pos, after, guard⟩ env (.slice (if c = l then A else A.map (·.add (l * sz))) (h - l) (c - l)) := fun w hw => by
  obtain ⟨inf, hin, hs⟩ := Option.map_eq_some_iff.1 hsz
  simp [execOp, hx, hy, hz, Instr.sliceAt, Instr.slice, Instr.sliceBounds, Instr.sliceBound, asIntOf, run_underlying ht, sizeOf, typeInfo, hin, hs, hl, hh]
end ops

/-! ### new blocks -/
theorem St.alloc {w0 w : World} {M : List Nat} {L : List Assn} (h : St w0 M L w) (o : Obj) : St w0 M (IsObj w.heap.size o :: L) (w.alloc o) := by
  have hold : ∀ b, b < w.heap.size → (w.alloc o).heap[b]? = w.heap[b]? := fun b hb => heap_alloc_old w o b hb
  refine ⟨h.os, h.tape, h.output, by simp; exact Nat.le_succ_of_le h.size, fun b hb hM => (hold b (Nat.lt_of_lt_of_le hb h.size)).trans (h.block b hb hM), ⟨?_, ?_, ?_⟩, ?_⟩
  · intro A hA
    rcases List.mem_cons.1 hA with rfl | hA
    · exact heap_alloc_new w o
    · exact A.stable w _ (fun b hb => hold b (h.sat.lt b (mem_fps.2 ⟨A, hA, hb⟩))) (h.sat.ok A hA)
  · intro b hb
    rw [fps_cons, IsObj.fp] at hb
    rcases List.mem_append.1 hb with hb | hb
    · rw [List.mem_singleton.1 hb]; simp
    · have := h.sat.lt b hb; simp; omega
  · rw [fps_cons, IsObj.fp]
    refine List.nodup_cons.2 ⟨fun hb => ?_, h.sat.nodup⟩
    exact absurd (h.sat.lt _ hb) (Nat.lt_irrefl _)
  · intro b hb
    rw [fps_cons, IsObj.fp] at hb
    rcases List.mem_append.1 hb with hb | hb
    · rw [List.mem_singleton.1 hb]; exact .inr h.size
    · exact h.own b hb

def zeroOf (P : Program) (T : TypeId) : Option (List Value) := ((P.info? T).bind (·.zero)).map vl
section ops
variable {dst : Option Tmp} {ty : TypeId} {pos : String} {after : Array Edge} {guard : Option (Nat × Bool)} {x y z : Operand} {v : Value} {T : TypeId} {K : Value → List Assn → Prop}
theorem OpV.alloc {zs : List Value} (hz : zeroOf C.P T = some zs) (h : ∀ b, K (.pointer (some ⟨b, 0, none⟩)) (Blk b T zs :: L)) : OpV C ⟨dst, .alloc T, ty, pos, after, guard⟩ env L K := fun w hw => by
  obtain ⟨zv, hzv, rfl⟩ := Option.map_eq_some_iff.1 hz
  obtain ⟨inf, hin, hi0⟩ := Option.bind_eq_some_iff.1 hzv
  have hrun : (execOp env.ev ⟨dst, .alloc T, ty, pos, after, guard⟩).run C.P w = .ok (.value (.pointer (some ⟨w.heap.size, 0, none⟩))) (w.alloc (.cells zv.cells T)) := by
    simp [execOp, Instr.alloc, zeroValue, typeInfo, hin, hi0, newVar, newRow]
  rw [hrun]
  refine ⟨_, hw.alloc _, ?_⟩
  rw [vl_cells]
  exact h w.heap.size
theorem News.alloc {zs : List Value} (hz : zeroOf C.P T = some zs) : News C ⟨dst, .alloc T, ty, pos, after, guard⟩ env (fun v new => ∃ b, v = .pointer (some ⟨b, 0, none⟩) ∧ new = [Blk b T zs]) := fun L K h =>
  OpV.alloc hz fun b => h _ _ ⟨b, rfl, rfl⟩
theorem OpV.box (hx : env.ev x = v) (h : ∀ b, K (.pointer (some ⟨b, 0, none⟩)) (Blk b T (vl v) :: L)) : OpV C ⟨dst, .box T x, ty, pos, after, guard⟩ env L K := fun w hw => by
  have hrun : (execOp env.ev ⟨dst, .box T x, ty, pos, after, guard⟩).run C.P w = .ok (.value (.pointer (some ⟨w.heap.size, 0, none⟩))) (w.alloc (.cells v.cells T)) := by
    simp [execOp, hx, Instr.box, newVar, newRow]
  rw [hrun]
  refine ⟨_, hw.alloc _, ?_⟩
  rw [vl_cells]
  exact h w.heap.size
end ops

/-! ### a store -/
theorem St.upd {w0 w w' : World} {M : List Nat} {L1 L2 : List Assn} {A A' : Assn} (h : St w0 M (L1 ++ A :: L2) w) (hfp : A'.fp = A.fp) (h1 : w'.os = w.os) (h2 : w'.tape = w.tape) (h3 : w'.output = w.output)
    (h4 : w'.heap.size = w.heap.size) (h5 : ∀ b, b ∉ A.fp → w'.heap[b]? = w.heap[b]?) (h6 : A'.ok w') : St w0 M (L1 ++ A' :: L2) w' := by
  have hf : fps (L1 ++ A' :: L2) = fps (L1 ++ A :: L2) := by rw [fps_append, fps_append, fps_cons, fps_cons, hfp]
  have hn := h.sat.nodup
  rw [fps_append, fps_cons] at hn
  have hn1 := (List.nodup_append.1 hn).2.2
  have hn2 := (List.nodup_append.1 (List.nodup_append.1 hn).2.1).2.2
  have hAM : ∀ b ∈ A.fp, b ∈ M ∨ w0.heap.size ≤ b := fun b hb => h.own b (by rw [fps_append, fps_cons]; exact List.mem_append.2 (.inr (List.mem_append.2 (.inl hb))))
  refine ⟨h1.trans h.os, h2.trans h.tape, h3.trans h.output, h4 ▸ h.size, fun b hb hM => ?_, ⟨?_, ?_, ?_⟩, ?_⟩
  · rw [h5 b (fun hbA => ?_)]
    · exact h.block b hb hM
    · rcases hAM b hbA with h7 | h7
      · exact hM h7
      · omega
  · intro X hX
    rcases List.mem_append.1 hX with hX | hX
    · refine X.stable w w' (fun b hb => h5 b (fun hbA => ?_)) (h.sat.ok X (List.mem_append.2 (.inl hX)))
      exact hn1 b (mem_fps.2 ⟨X, hX, hb⟩) b (List.mem_append.2 (.inl hbA)) rfl
    · rcases List.mem_cons.1 hX with rfl | hX
      · exact h6
      · refine X.stable w w' (fun b hb => h5 b (fun hbA => ?_)) (h.sat.ok X (List.mem_append.2 (.inr (List.mem_cons_of_mem _ hX))))
        exact hn2 b hbA b (mem_fps.2 ⟨X, hX, hb⟩) rfl
  · rw [hf, h4]; exact h.sat.lt
  · rw [hf]; exact h.sat.nodup
  · rw [hf]; exact h.own
theorem run_storeVar_at {P : Program} {w : World} {b o : Nat} {T T' : TypeId} {cs : List Value} {v : Value} (h : (Blk b T' cs).ok w) (hs : (P.info? T).map (·.size) = some (vl v).length) (hb : o + (vl v).length ≤ cs.length) (h1 : (vl v).all (·.oneCell') = true) :
    (storeVar T ⟨b, o, none⟩ v).run P w = .ok () (w.setRow b (cs.take o ++ vl v ++ cs.drop (o + (vl v).length)).toArray) := by
  obtain ⟨i, hi, hsz⟩ := Option.map_eq_some_iff.1 hs
  have hst := run_storeCells_at P b o T' (vl v) 0 cs.toArray w h (by simpa using hb) (fun u hu => (List.all_eq_true.1 h1) u hu)
  have hc : v.cells.toList = vl v := by rw [vl_cells]
  simp only [Nat.add_zero] at hst
  unfold storeVar
  simp [sizeOf, typeInfo, hi, hsz, hc, vl_length, hst]
theorem St.setRow {w0 w : World} {M : List Nat} {L1 L2 : List Assn} {b : Nat} {T : TypeId} {cs cs' : List Value} (h : St w0 M (L1 ++ Blk b T cs :: L2) w) : St w0 M (L1 ++ Blk b T cs' :: L2) (w.setRow b cs'.toArray) := by
  have hb : w.heap[b]? = some (.cells cs.toArray T (0, 0)) := h.ok (List.mem_append.2 (.inr (List.mem_cons_self ..)))
  refine h.upd rfl rfl rfl rfl (by simp) (fun k hk => ?_) (setRow_heap w b _ _ T _ hb)
  have hne : b ≠ k := fun e => hk (by rw [Blk.fp, e]; exact List.mem_cons_self ..)
  simp only [World.setRow]
  rw [Array.getElem?_modify, if_neg hne]
theorem OpV.storeG {dst : Option Tmp} {ty : TypeId} {pos : String} {after : Array Edge} {guard : Option (Nat × Bool)} {x y : Operand} {v : Value} {T T' : TypeId} {K : Value → List Assn → Prop} {L1 L2 : List Assn} {b o : Nat} {cs cs' : List Value}
    (hx : env.ev x = .pointer (some ⟨b, o, none⟩)) (hy : env.ev y = v) (hs : (C.P.info? T).map (·.size) = some (vl v).length) (h1 : (vl v).all (·.oneCell') = true) (hb : o + (vl v).length ≤ cs.length)
    (hc : cs.take o ++ vl v ++ cs.drop (o + (vl v).length) = cs') (h : K undef (L1 ++ Blk b T' cs' :: L2)) : OpV C ⟨dst, .store T x y, ty, pos, after, guard⟩ env (L1 ++ Blk b T' cs :: L2) K := fun w hw => by
  have hblk : (Blk b T' cs).ok w := hw.ok (List.mem_append.2 (.inr (List.mem_cons_self ..)))
  have hst := run_storeVar_at (P := C.P) hblk hs hb h1
  subst hc
  have hrun : (execOp env.ev ⟨dst, .store T x y, ty, pos, after, guard⟩).run C.P w = .ok .skip (w.setRow b (cs.take o ++ vl v ++ cs.drop (o + (vl v).length)).toArray) := by
    simp only [execOp, hx, hy, Instr.storeAt, Instr.sureAddr, Sem.run_bind, Sem.run_pure, Result.andThen_ok, hst]
  rw [hrun]
  exact ⟨_, hw.setRow, h⟩
theorem spl_all {cs vs : List Value} (h : vs.length = cs.length) : cs.take 0 ++ vs ++ cs.drop (0 + vs.length) = vs := by simp [h]
theorem spl_one {cs : List Value} {v : Value} {o : Nat} (h : o < cs.length) : cs.take o ++ [v] ++ cs.drop (o + [v].length) = cs.set o v := by
  rw [List.set_eq_take_append_cons_drop, if_pos h]; simp

theorem OpV.storeV0 {dst : Option Tmp} {ty : TypeId} {pos : String} {after : Array Edge} {guard : Option (Nat × Bool)} {x y : Operand} {v : Value} {T T' : TypeId} {K : Value → List Assn → Prop} {R : List Assn} {b : Nat} {cs : List Value}
    (hx : env.ev x = .pointer (some ⟨b, 0, none⟩)) (hy : env.ev y = v) (hs : (C.P.info? T).map (·.size) = some (vl v).length) (h1 : (vl v).all (·.oneCell') = true) (hl : (vl v).length = cs.length)
    (h : K undef (Blk b T' (vl v) :: R)) : OpV C ⟨dst, .store T x y, ty, pos, after, guard⟩ env (Blk b T' cs :: R) K :=
  OpV.storeG (L1 := []) hx hy hs h1 (by omega) (spl_all hl) h
theorem OpV.storeC0 {dst : Option Tmp} {ty : TypeId} {pos : String} {after : Array Edge} {guard : Option (Nat × Bool)} {x y : Operand} {v : Value} {T T' : TypeId} {K : Value → List Assn → Prop} {R : List Assn} {b o : Nat} {cs : List Value}
    (hx : env.ev x = .pointer (some ⟨b, o, none⟩)) (hy : env.ev y = v) (hs : (C.P.info? T).map (·.size) = some 1) (hv : vl v = [v]) (h1 : v.oneCell' = true) (hl : o < cs.length)
    (h : K undef (Blk b T' (cs.set o v) :: R)) : OpV C ⟨dst, .store T x y, ty, pos, after, guard⟩ env (Blk b T' cs :: R) K :=
  OpV.storeG (L1 := []) hx hy (by rw [hv]; exact hs) (by rw [hv]; simp [h1]) (by rw [hv]; exact hl) (by rw [hv]; exact spl_one hl) h

theorem OpV.storeV1 {dst : Option Tmp} {ty : TypeId} {pos : String} {after : Array Edge} {guard : Option (Nat × Bool)} {x y : Operand} {v : Value} {T T' : TypeId} {K : Value → List Assn → Prop} {B0 : Assn} {R : List Assn} {b : Nat} {cs : List Value}
    (hx : env.ev x = .pointer (some ⟨b, 0, none⟩)) (hy : env.ev y = v) (hs : (C.P.info? T).map (·.size) = some (vl v).length) (h1 : (vl v).all (·.oneCell') = true) (hl : (vl v).length = cs.length)
    (h : K undef (B0 :: Blk b T' (vl v) :: R)) : OpV C ⟨dst, .store T x y, ty, pos, after, guard⟩ env (B0 :: Blk b T' cs :: R) K :=
  OpV.storeG (L1 := [B0]) hx hy hs h1 (by omega) (spl_all hl) h
theorem OpV.storeC1 {dst : Option Tmp} {ty : TypeId} {pos : String} {after : Array Edge} {guard : Option (Nat × Bool)} {x y : Operand} {v : Value} {T T' : TypeId} {K : Value → List Assn → Prop} {B0 : Assn} {R : List Assn} {b o : Nat} {cs : List Value}
    (hx : env.ev x = .pointer (some ⟨b, o, none⟩)) (hy : env.ev y = v) (hs : (C.P.info? T).map (·.size) = some 1) (hv : vl v = [v]) (h1 : v.oneCell' = true) (hl : o < cs.length)
    (h : K undef (B0 :: Blk b T' (cs.set o v) :: R)) : OpV C ⟨dst, .store T x y, ty, pos, after, guard⟩ env (B0 :: Blk b T' cs :: R) K :=
  OpV.storeG (L1 := [B0]) hx hy (by rw [hv]; exact hs) (by rw [hv]; simp [h1]) (by rw [hv]; exact hl) (by rw [hv]; exact spl_one hl) h

theorem OpV.storeV2 {dst : Option Tmp} {ty : TypeId} {pos : String} {after : Array Edge} {guard : Option (Nat × Bool)} {x y : Operand} {v : Value} {T T' : TypeId} {K : Value → List Assn → Prop} {B0 B1 : Assn} {R : List Assn} {b : Nat} {cs : List Value}
    (hx : env.ev x = .pointer (some ⟨b, 0, none⟩)) (hy : env.ev y = v) (hs : (C.P.info? T).map (·.size) = some (vl v).length) (h1 : (vl v).all (·.oneCell') = true) (hl : (vl v).length = cs.length)
    (h : K undef (B0 :: B1 :: Blk b T' (vl v) :: R)) : OpV C ⟨dst, .store T x y, ty, pos, after, guard⟩ env (B0 :: B1 :: Blk b T' cs :: R) K :=
  OpV.storeG (L1 := [B0, B1]) hx hy hs h1 (by omega) (spl_all hl) h
theorem OpV.storeC2 {dst : Option Tmp} {ty : TypeId} {pos : String} {after : Array Edge} {guard : Option (Nat × Bool)} {x y : Operand} {v : Value} {T T' : TypeId} {K : Value → List Assn → Prop} {B0 B1 : Assn} {R : List Assn} {b o : Nat} {cs : List Value}
    (hx : env.ev x = .pointer (some ⟨b, o, none⟩)) (hy : env.ev y = v) (hs : (C.P.info? T).map (·.size) = some 1) (hv : vl v = [v]) (h1 : v.oneCell' = true) (hl : o < cs.length)
    (h : K undef (B0 :: B1 :: Blk b T' (cs.set o v) :: R)) : OpV C ⟨dst, .store T x y, ty, pos, after, guard⟩ env (B0 :: B1 :: Blk b T' cs :: R) K :=
  OpV.storeG (L1 := [B0, B1]) hx hy (by rw [hv]; exact hs) (by rw [hv]; simp [h1]) (by rw [hv]; exact hl) (by rw [hv]; exact spl_one hl) h

theorem OpV.storeV3 {dst : Option Tmp} {ty : TypeId} {pos : String} {after : Array Edge} {guard : Option (Nat × Bool)} {x y : Operand} {v : Value} {T T' : TypeId} {K : Value → List Assn → Prop} {B0 B1 B2 : Assn} {R : List Assn} {b : Nat} {cs : List Value}
    (hx : env.ev x = .pointer (some ⟨b, 0, none⟩)) (hy : env.ev y = v) (hs : (C.P.info? T).map (·.size) = some (vl v).length) (h1 : (vl v).all (·.oneCell') = true) (hl : (vl v).length = cs.length)
    (h : K undef (B0 :: B1 :: B2 :: Blk b T' (vl v) :: R)) : OpV C ⟨dst, .store T x y, ty, pos, after, guard⟩ env (B0 :: B1 :: B2 :: Blk b T' cs :: R) K :=
  OpV.storeG (L1 := [B0, B1, B2]) hx hy hs h1 (by omega) (spl_all hl) h
theorem OpV.storeC3 {dst : Option Tmp} {ty : TypeId} {pos : String} {after : Array Edge} {guard : Option (Nat × Bool)} {x y : Operand} {v : Value} {T T' : TypeId} {K : Value → List Assn → Prop} {B0 B1 B2 : Assn} {R : List Assn} {b o : Nat} {cs : List Value}
    (hx : env.ev x = .pointer (some ⟨b, o, none⟩)) (hy : env.ev y = v) (hs : (C.P.info? T).map (·.size) = some 1) (hv : vl v = [v]) (h1 : v.oneCell' = true) (hl : o < cs.length)
    (h : K undef (B0 :: B1 :: B2 :: Blk b T' (cs.set o v) :: R)) : OpV C ⟨dst, .store T x y, ty, pos, after, guard⟩ env (B0 :: B1 :: B2 :: Blk b T' cs :: R) K :=
  OpV.storeG (L1 := [B0, B1, B2]) hx hy (by rw [hv]; exact hs) (by rw [hv]; simp [h1]) (by rw [hv]; exact hl) (by rw [hv]; exact spl_one hl) h

theorem OpV.storeV4 {dst : Option Tmp} {ty : TypeId} {pos : String} {after : Array Edge} {guard : Option (Nat × Bool)} {x y : Operand} {v : Value} {T T' : TypeId} {K : Value → List Assn → Prop} {B0 B1 B2 B3 : Assn} {R : List Assn} {b : Nat} {cs : List Value}
    (hx : env.ev x = .pointer (some ⟨b, 0, none⟩)) (hy : env.ev y = v) (hs : (C.P.info? T).map (·.size) = some (vl v).length) (h1 : (vl v).all (·.oneCell') = true) (hl : (vl v).length = cs.length)
    (h : K undef (B0 :: B1 :: B2 :: B3 :: Blk b T' (vl v) :: R)) : OpV C ⟨dst, .store T x y, ty, pos, after, guard⟩ env (B0 :: B1 :: B2 :: B3 :: Blk b T' cs :: R) K :=
  OpV.storeG (L1 := [B0, B1, B2, B3]) hx hy hs h1 (by omega) (spl_all hl) h
theorem OpV.storeC4 {dst : Option Tmp} {ty : TypeId} {pos : String} {after : Array Edge} {guard : Option (Nat × Bool)} {x y : Operand} {v : Value} {T T' : TypeId} {K : Value → List Assn → Prop} {B0 B1 B2 B3 : Assn} {R : List Assn} {b o : Nat} {cs : List Value}
    (hx : env.ev x = .pointer (some ⟨b, o, none⟩)) (hy : env.ev y = v) (hs : (C.P.info? T).map (·.size) = some 1) (hv : vl v = [v]) (h1 : v.oneCell' = true) (hl : o < cs.length)
    (h : K undef (B0 :: B1 :: B2 :: B3 :: Blk b T' (cs.set o v) :: R)) : OpV C ⟨dst, .store T x y, ty, pos, after, guard⟩ env (B0 :: B1 :: B2 :: B3 :: Blk b T' cs :: R) K :=
  OpV.storeG (L1 := [B0, B1, B2, B3]) hx hy (by rw [hv]; exact hs) (by rw [hv]; simp [h1]) (by rw [hv]; exact hl) (by rw [hv]; exact spl_one hl) h

theorem OpV.storeV5 {dst : Option Tmp} {ty : TypeId} {pos : String} {after : Array Edge} {guard : Option (Nat × Bool)} {x y : Operand} {v : Value} {T T' : TypeId} {K : Value → List Assn → Prop} {B0 B1 B2 B3 B4 : Assn} {R : List Assn} {b : Nat} {cs : List Value}
    (hx : env.ev x = .pointer (some ⟨b, 0, none⟩)) (hy : env.ev y = v) (hs : (C.P.info? T).map (·.size) = some (vl v).length) (h1 : (vl v).all (·.oneCell') = true) (hl : (vl v).length = cs.length)
    (h : K undef (B0 :: B1 :: B2 :: B3 :: B4 :: Blk b T' (vl v) :: R)) : OpV C ⟨dst, .store T x y, ty, pos, after, guard⟩ env (B0 :: B1 :: B2 :: B3 :: B4 :: Blk b T' cs :: R) K :=
  OpV.storeG (L1 := [B0, B1, B2, B3, B4]) hx hy hs h1 (by omega) (spl_all hl) h
theorem OpV.storeC5 {dst : Option Tmp} {ty : TypeId} {pos : String} {after : Array Edge} {guard : Option (Nat × Bool)} {x y : Operand} {v : Value} {T T' : TypeId} {K : Value → List Assn → Prop} {B0 B1 B2 B3 B4 : Assn} {R : List Assn} {b o : Nat} {cs : List Value}
    (hx : env.ev x = .pointer (some ⟨b, o, none⟩)) (hy : env.ev y = v) (hs : (C.P.info? T).map (·.size) = some 1) (hv : vl v = [v]) (h1 : v.oneCell' = true) (hl : o < cs.length)
    (h : K undef (B0 :: B1 :: B2 :: B3 :: B4 :: Blk b T' (cs.set o v) :: R)) : OpV C ⟨dst, .store T x y, ty, pos, after, guard⟩ env (B0 :: B1 :: B2 :: B3 :: B4 :: Blk b T' cs :: R) K :=
  OpV.storeG (L1 := [B0, B1, B2, B3, B4]) hx hy (by rw [hv]; exact hs) (by rw [hv]; simp [h1]) (by rw [hv]; exact hl) (by rw [hv]; exact spl_one hl) h

theorem OpV.storeV6 {dst : Option Tmp} {ty : TypeId} {pos : String} {after : Array Edge} {guard : Option (Nat × Bool)} {x y : Operand} {v : Value} {T T' : TypeId} {K : Value → List Assn → Prop} {B0 B1 B2 B3 B4 B5 : Assn} {R : List Assn} {b : Nat} {cs : List Value}
    (hx : env.ev x = .pointer (some ⟨b, 0, none⟩)) (hy : env.ev y = v) (hs : (C.P.info? T).map (·.size) = some (vl v).length) (h1 : (vl v).all (·.oneCell') = true) (hl : (vl v).length = cs.length)
    (h : K undef (B0 :: B1 :: B2 :: B3 :: B4 :: B5 :: Blk b T' (vl v) :: R)) : OpV C ⟨dst, .store T x y, ty, pos, after, guard⟩ env (B0 :: B1 :: B2 :: B3 :: B4 :: B5 :: Blk b T' cs :: R) K :=
  OpV.storeG (L1 := [B0, B1, B2, B3, B4, B5]) hx hy hs h1 (by omega) (spl_all hl) h
theorem OpV.storeC6 {dst : Option Tmp} {ty : TypeId} {pos : String} {after : Array Edge} {guard : Option (Nat × Bool)} {x y : Operand} {v : Value} {T T' : TypeId} {K : Value → List Assn → Prop} {B0 B1 B2 B3 B4 B5 : Assn} {R : List Assn} {b o : Nat} {cs : List Value}
    (hx : env.ev x = .pointer (some ⟨b, o, none⟩)) (hy : env.ev y = v) (hs : (C.P.info? T).map (·.size) = some 1) (hv : vl v = [v]) (h1 : v.oneCell' = true) (hl : o < cs.length)
    (h : K undef (B0 :: B1 :: B2 :: B3 :: B4 :: B5 :: Blk b T' (cs.set o v) :: R)) : OpV C ⟨dst, .store T x y, ty, pos, after, guard⟩ env (B0 :: B1 :: B2 :: B3 :: B4 :: B5 :: Blk b T' cs :: R) K :=
  OpV.storeG (L1 := [B0, B1, B2, B3, B4, B5]) hx hy (by rw [hv]; exact hs) (by rw [hv]; simp [h1]) (by rw [hv]; exact hl) (by rw [hv]; exact spl_one hl) h

theorem OpV.storeV7 {dst : Option Tmp} {ty : TypeId} {pos : String} {after : Array Edge} {guard : Option (Nat × Bool)} {x y : Operand} {v : Value} {T T' : TypeId} {K : Value → List Assn → Prop} {B0 B1 B2 B3 B4 B5 B6 : Assn} {R : List Assn} {b : Nat} {cs : List Value}
    (hx : env.ev x = .pointer (some ⟨b, 0, none⟩)) (hy : env.ev y = v) (hs : (C.P.info? T).map (·.size) = some (vl v).length) (h1 : (vl v).all (·.oneCell') = true) (hl : (vl v).length = cs.length)
    (h : K undef (B0 :: B1 :: B2 :: B3 :: B4 :: B5 :: B6 :: Blk b T' (vl v) :: R)) : OpV C ⟨dst, .store T x y, ty, pos, after, guard⟩ env (B0 :: B1 :: B2 :: B3 :: B4 :: B5 :: B6 :: Blk b T' cs :: R) K :=
  OpV.storeG (L1 := [B0, B1, B2, B3, B4, B5, B6]) hx hy hs h1 (by omega) (spl_all hl) h
theorem OpV.storeC7 {dst : Option Tmp} {ty : TypeId} {pos : String} {after : Array Edge} {guard : Option (Nat × Bool)} {x y : Operand} {v : Value} {T T' : TypeId} {K : Value → List Assn → Prop} {B0 B1 B2 B3 B4 B5 B6 : Assn} {R : List Assn} {b o : Nat} {cs : List Value}
    (hx : env.ev x = .pointer (some ⟨b, o, none⟩)) (hy : env.ev y = v) (hs : (C.P.info? T).map (·.size) = some 1) (hv : vl v = [v]) (h1 : v.oneCell' = true) (hl : o < cs.length)
    (h : K undef (B0 :: B1 :: B2 :: B3 :: B4 :: B5 :: B6 :: Blk b T' (cs.set o v) :: R)) : OpV C ⟨dst, .store T x y, ty, pos, after, guard⟩ env (B0 :: B1 :: B2 :: B3 :: B4 :: B5 :: B6 :: Blk b T' cs :: R) K :=
  OpV.storeG (L1 := [B0, B1, B2, B3, B4, B5, B6]) hx hy (by rw [hv]; exact hs) (by rw [hv]; simp [h1]) (by rw [hv]; exact hl) (by rw [hv]; exact spl_one hl) h


/-! ### calls -/
def Enters (P : Program) (f : FuncId) : Prop := ∃ fn, P.funcs[f]? = some fn ∧ (fn.name == "runtime.NumGoroutine") = false ∧ fn.body.isNone = false
theorem run_callFunc {P : Program} {f : FuncId} {w : World} {args : Array Value} (h : Enters P f) : (callFunc f args).run P w = .ok (.enter f args) w := by
  obtain ⟨fn, h1, h2, h3⟩ := h
  have h2' : fn.name ≠ "runtime.NumGoroutine" := by simpa using h2
  have h3' : ¬ fn.body = none := fun e => by simp [e] at h3
  simp [callFunc, h1, h2', h3']
/-- What a callee that was given the blocks M leaves. -/
def Post (w : World) (M : List Nat) (φ : Value → List Assn → Prop) : Ending → World → Prop := fun e w' => ∃ v L', e = .returned v ∧ St w M L' w' ∧ φ v L'
/-- It hands back this value, and what was there is as it was. -/
def Ret (w : World) (v : Value) : Ending → World → Prop := fun e w' => e = .returned v ∧ St w [] [] w'
section ops
variable {dst : Option Tmp} {ty : TypeId} {pos : String} {after : Array Edge} {guard : Option (Nat × Bool)} {x : Operand} {args : Array Operand} {tys : Array TypeId} {v : Value} {K : Value → List Assn → Prop} {f : FuncId} {cap : Array Value}
/-- A call's arguments, the captured ones behind. -/
def callArgs (env : Env) (args : Array Operand) (cap : Array Value) : Array Value := (args.toList.map env.ev ++ cap.toList).toArray
theorem callArgs_eq (env : Env) (args : Array Operand) (cap : Array Value) : args.map env.ev ++ cap = callArgs env args cap := by
  apply Array.ext'
  simp [callArgs]
theorem run_call {P : Program} {w : World} (he : Enters P f) (hx : env.ev x = .func (.func f) #[] cap) :
    (execOp env.ev ⟨dst, .call { callee := .value x, args := args, argTypes := tys }, ty, pos, after, guard⟩).run P w = .ok (.enter f (callArgs env args cap)) w := by
  rw [← callArgs_eq]
  simp [execOp, resolve, hx, Deferred.ofValue, invoke, run_callFunc he]
theorem OpV.call (he : Enters C.P f) (hx : env.ev x = .func (.func f) #[] cap)
    (hc : ∀ w, St C.w0 C.M L w → Calls C.P f (callArgs env args cap) w fun e w' => ∃ v, e = .returned v ∧ ∃ L', St C.w0 C.M L' w' ∧ K v L') :
    OpV C ⟨dst, .call { callee := .value x, args := args, argTypes := tys }, ty, pos, after, guard⟩ env L K := fun w hw => by
  rw [run_call he hx]
  exact hc w hw
theorem OpV.con {Pre R : List Assn} {φ : Value → List Assn → Prop} (he : Enters C.P f) (hx : env.ev x = .func (.func f) #[] cap) (hp : L.Perm (Pre ++ R))
    (hc : ∀ w, St C.w0 C.M (Pre ++ R) w → Calls C.P f (callArgs env args cap) w (Post w (fps Pre) φ)) (hk : ∀ v L', φ v L' → K v (L' ++ R)) :
    OpV C ⟨dst, .call { callee := .value x, args := args, argTypes := tys }, ty, pos, after, guard⟩ env L K :=
  OpV.call he hx fun w hw => (hc w (hw.perm hp)).mono fun e w' ⟨v, L', h1, h2, h3⟩ => ⟨v, h1, L' ++ R, (hw.perm hp).frame h2, hk v L' h3⟩
theorem St.after0 {w0 w w' : World} {M : List Nat} {L : List Assn} (h : St w0 M L w) (k : St w [] [] w') : St w0 M L w' := by
  have h' : St w0 M ([] ++ L) w := h
  simpa using h'.frame (P := []) (L' := []) k
theorem OpV.con0 (he : Enters C.P f) (hx : env.ev x = .func (.func f) #[] cap)
    (hc : ∀ w, St C.w0 C.M L w → Calls C.P f (callArgs env args cap) w (Ret w v)) (hk : K v L) :
    OpV C ⟨dst, .call { callee := .value x, args := args, argTypes := tys }, ty, pos, after, guard⟩ env L K :=
  OpV.call he hx fun w hw => (hc w hw).mono fun e w' ⟨h1, h2⟩ => ⟨v, h1, L, hw.after0 h2, hk⟩
theorem Det.con0 {F : List Assn} (he : Enters C.P f) (hx : env.ev x = .func (.func f) #[] cap)
    (hc : ∀ w, St C.w0 C.M F w → Calls C.P f (callArgs env args cap) w (Ret w v)) :
    Det C ⟨dst, .call { callee := .value x, args := args, argTypes := tys }, ty, pos, after, guard⟩ env v F := fun X w hw => by
  rw [run_call he hx]
  exact (hc w hw.left).mono fun e w' ⟨h1, h2⟩ => ⟨v, h1, rfl, hw.after0 h2⟩
theorem Cal.con0 (he : Enters C.P f) (hx : env.ev x = .func (.func f) #[] cap)
    (hc : ∀ w, St C.w0 C.M L w → Calls C.P f (callArgs env args cap) w (Ret w v)) :
    Cal C ⟨dst, .call { callee := .value x, args := args, argTypes := tys }, ty, pos, after, guard⟩ env v L := fun w hw => by
  rw [run_call he hx]
  exact (hc w hw).mono fun e w' ⟨h1, h2⟩ => ⟨v, h1, rfl, hw.after0 h2⟩
/-- A call that leaves what is known, and whose value is the same whatever else is known. -/
theorem CalU.con0 (he : Enters C.P f) (hx : env.ev x = .func (.func f) #[] cap)
    (hc : ∀ w, St C.w0 C.M L w → Calls C.P f (callArgs env args cap) w (Ret w v)) :
    ∀ L', Sub L L' → Cal C ⟨dst, .call { callee := .value x, args := args, argTypes := tys }, ty, pos, after, guard⟩ env v L' := fun L' s w hw => by
  rw [run_call he hx]
  exact (hc w (hw.sub s)).mono fun e w' ⟨h1, h2⟩ => ⟨v, h1, rfl, hw.after0 h2⟩
end ops
theorem AWk.c0 {E : List Nat × List Nat} {F X : List Assn} {dn : List Nat} {k : Nat} {o : Oper} {v : Value} (ho : ops[k]? = some o) (hk : (firstK ops dn k && within ops o) = true) (hsel : noSelectB ops = true) (hd : dlt o.dst C.n = true) (hnd : isDefer o = false) (hE : has E.1 k = false ∧ has E.2 k = false)
    (hw : wantedE ops env o = true) (hy : Det C o env v F) (h : AWk C ops Q E F (k :: dn) (env.putO o.dst v) X) : AWk C ops Q E F dn env X :=
  AWk.det ho hk (noSelectB_spec hsel) hd hnd (.inl ⟨hw, hE, hy⟩) h

/-! ### a function -/
def RVs (C : Ctx) (env : Env) (L : List Assn) : List ResultVar → List Value → Prop
  | [], vs => vs = []
  | .tmp t :: rs, vs => ∃ v vs', vs = v :: vs' ∧ env t = v ∧ RVs C env L rs vs'
  | .cell a T :: rs, vs => ∃ v vs' p, vs = v :: vs' ∧ env a = .pointer p ∧ Ld C L p T v ∧ RVs C env L rs vs'
def pack : List Value → Value
  | [v] => v
  | vs => .tuple vs.toArray
theorem RVs.nil : RVs C env L [] [] := rfl
theorem RVs.tmp {t : Nat} {v : Value} {rs : List ResultVar} {vs : List Value} (h : env t = v) (k : RVs C env L rs vs) : RVs C env L (.tmp t :: rs) (v :: vs) := ⟨v, vs, rfl, h, k⟩
theorem RVs.cell {t : Nat} {T : TypeId} {p : Option Addr} {v : Value} {rs : List ResultVar} {vs : List Value} (h : env t = .pointer p) (hl : Ld C L p T v) (k : RVs C env L rs vs) : RVs C env L (.cell t T :: rs) (v :: vs) := ⟨v, vs, p, rfl, h, hl, k⟩
def resOne (tmps : Array Value) : ResultVar → Sem Value
  | .tmp t => pure (tmps.getD t undef)
  | .cell p t => do loadVar t (← asAddr (tmps.getD p undef))
theorem results_eq (fn : Func) (tmps : Array Value) : results fn tmps = (do
    let vs ← fn.results.mapM (resOne tmps)
    pure (if h : vs.size = 1 then vs[0] else .tuple vs)) := rfl
theorem RVs.run {a : Act} (ha : Fits C.n a env) {w : World} (hw : St C.w0 C.M L w) : ∀ (rs : List ResultVar) (vs : List Value), RVs C env L rs vs →
    (rs.mapM (resOne a.tmps)).run C.P w = .ok vs w
  | [], vs, h => by subst h; rfl
  | .tmp t :: rs, vs, h => by
    obtain ⟨v, vs', rfl, h1, h2⟩ := h
    have ih := RVs.run ha hw rs vs' h2
    have ht := ha.2.2 t
    rw [h1] at ht
    simp only [List.mapM_cons, Sem.run_bind, resOne, ht, Sem.run_pure, Result.andThen_ok, ih]
  | .cell p T :: rs, vs, h => by
    obtain ⟨v, vs', q, rfl, h1, hl, h2⟩ := h
    obtain ⟨p', rfl, hp⟩ := hl w hw
    have ih := RVs.run ha hw rs vs' h2
    have ht := ha.2.2 p
    rw [h1] at ht
    simp only [List.mapM_cons, Sem.run_bind, resOne, ht, asAddr, Sem.run_pure, Result.andThen_ok, hp, ih]
theorem RVs.results {a : Act} (ha : Fits C.n a env) {w : World} (hw : St C.w0 C.M L w) {fn : Func} {vs : List Value} (h : RVs C env L fn.results.toList vs) : (results fn a.tmps).run C.P w = .ok (pack vs) w := by
  have h1 := RVs.run ha hw _ _ h
  rw [results_eq, ← Array.toArray_toList (xs := fn.results), List.mapM_toArray]
  simp only [Sem.run_bind, Sem.run_map, h1, Result.andThen_ok, Sem.run_pure]
  match vs with
  | [] => rfl
  | [v] => rfl
  | v :: u :: l => simp [pack]
/-- The block of a loop's deferred calls, none in it. -/
def dfA (D : Nat) : Assn := IsObj D (.deferred (some []))
inductive finQ (C : Ctx) (rs : List ResultVar) (φ : Value → List Assn → Prop) : Exit → Env → List Assn → Prop
  | ret {env : Env} {L : List Assn} {vs : List Value} {L' : List Assn} (h : RVs C env L rs vs) (hs : Sub L' L) (hφ : φ (pack vs) L') (hd : env.ds = [] := by rfl) : finQ C rs φ .ret env L
  | normal {env : Env} {L : List Assn} {vs : List Value} {L' : List Assn} (h : RVs C env L rs vs) (hs : Sub L' L) (hφ : φ (pack vs) L') (hd : env.ds = [] := by rfl) : finQ C rs φ .normal env L
  | retM {env : Env} {L L1 : List Assn} {vs : List Value} {L' : List Assn} {Ds : List Nat} (hd : env.ds = Ds) (hm : Sub (Ds.map dfA ++ L1) L) (h : RVs C env L1 rs vs) (hs : Sub L' L1) (hφ : φ (pack vs) L') : finQ C rs φ .ret env L
  | normalM {env : Env} {L L1 : List Assn} {vs : List Value} {L' : List Assn} {Ds : List Nat} (hd : env.ds = Ds) (hm : Sub (Ds.map dfA ++ L1) L) (h : RVs C env L1 rs vs) (hs : Sub L' L1) (hφ : φ (pack vs) L') : finQ C rs φ .normal env L
theorem St.dropObj {w0 w : World} {M : List Nat} {L : List Assn} {b : Nat} {o : Obj} (h : St w0 M (IsObj b o :: L) w) (o' : Obj) : St w0 M L (w.putObj b o') := by
  have hb : w.heap[b]? = some o := h.ok (A := IsObj b o) (List.mem_cons_self ..)
  have hlt : b < w.heap.size := (Array.getElem?_eq_some_iff.1 hb).1
  have h1 : St w0 M ([] ++ IsObj b o :: L) w := h
  have h2 := h1.upd (w' := w.putObj b o') (A' := IsObj b o') rfl rfl rfl rfl (by simp [World.putObj]) (fun k hk => World.putObj_heap_other (fun e => hk (by rw [e, IsObj.fp]; exact List.mem_cons_self ..))) (World.putObj_heap_same hlt)
  exact h2.sub (Sub.drop _ (Sub.refl _))
theorem leavesM {F : Fence} {n : Nat} {P : Program} {fn : Func} {tmps : Array Value} {R : Ending → World → Prop} {w0 : World} {M : List Nat} {L1 : List Assn} : ∀ (Ds : List Nat) (w : World), St w0 M (Ds.map dfA ++ L1) w →
    (∀ w', St w0 M L1 w' → ∃ v, (results fn tmps).run P w' = .ok v w' ∧ R (.returned v) w') → LeavesInM F n P fn tmps R (Ds.map markD) .returning w
  | [], w, hw, h => h w hw
  | D :: Ds, w, hw, h => by
    have hb : w.heap[D]? = some (.deferred (some [])) := hw.ok (A := dfA D) (List.mem_cons_self ..)
    exact ⟨by simp, .inl ⟨D, _, rfl, run_takeDeferred hb, leavesM Ds _ (St.dropObj (L := Ds.map dfA ++ L1) hw _) h⟩⟩
def env0 (args : Array Value) : Env := ⟨fun t => args.getD t undef, []⟩
theorem Calls.of {P : Program} {f : FuncId} {fn : Func} {c : Code} {args : Array Value} {w0 : World} {L : List Assn} {φ : Value → List Assn → Prop} {n : Nat} {rs : List ResultVar}
    (hf : P.funcs[f]? = some fn) (hb : fn.body = some c) (hn : fn.ntmps = n) (hr : fn.results.toList = rs) (ha : args.size ≤ n) (hL : Sat w0 L)
    (h : TC ⟨P, n, w0, fps L, none⟩ c (finQ ⟨P, n, w0, fps L, none⟩ rs φ) (env0 args) L) : Calls P f args w0 (Post w0 (fps L) φ) := by
  subst hn hr
  refine (callsIn_wide (n := 0)).1 (callsIn_of_wp_marks hf hb trivial ?_)
  have hfit : Fits fn.ntmps { tmps := args ++ Array.replicate (fn.ntmps - args.size) undef, defers := [] } (env0 args) := by
    refine ⟨rfl, by simp; omega, fun t => ?_⟩
    simp only [env0, Array.getD_eq_getD_getElem?]
    by_cases ht : t < args.size
    · rw [Array.getElem?_append_left ht]
    · rw [Array.getElem?_append_right (by omega), Array.getElem?_eq_none (xs := args) (by omega)]
      rw [Array.getElem?_replicate]
      split <;> rfl
  have fin : ∀ {a : Act} {w : World} {env : Env} {L2 L' : List Assn} {vs : List Value}, Fits fn.ntmps a env → RVs ⟨P, fn.ntmps, w0, fps L, none⟩ env L2 fn.results.toList vs → Sub L' L2 → φ (pack vs) L' → St w0 (fps L) L2 w →
      ∃ v, (results fn a.tmps).run P w = .ok v w ∧ Post w0 (fps L) φ (.returned v) w := fun ha hv hs hφ hw => ⟨_, RVs.results ha hw hv, _, _, rfl, hw.sub hs, hφ⟩
  refine wpIn_mono (h _ w0 hfit (St.start hL)) fun e a w ⟨env, L1, h1, h2, h3⟩ => ?_
  cases e with
  | normal =>
    cases h3 with
    | normal hv hs hφ hd =>
      show LeavesInM _ _ _ _ _ _ a.defers _ _
      rw [h1.1, hd]
      exact leavesM [] w h2 fun w' hw' => fin h1 hv hs hφ hw'
    | normalM hd hm hv hs hφ =>
      show LeavesInM _ _ _ _ _ _ a.defers _ _
      rw [h1.1, hd]
      exact leavesM _ w (h2.sub hm) fun w' hw' => fin h1 hv hs hφ hw'
  | ret =>
    cases h3 with
    | ret hv hs hφ hd =>
      show LeavesInM _ _ _ _ _ _ a.defers _ _
      rw [h1.1, hd]
      exact leavesM [] w h2 fun w' hw' => fin h1 hv hs hφ hw'
    | retM hd hm hv hs hφ =>
      show LeavesInM _ _ _ _ _ _ a.defers _ _
      rw [h1.1, hd]
      exact leavesM _ w (h2.sub hm) fun w' hw' => fin h1 hv hs hφ hw'
  | exit id => cases h3
  | goto l => cases h3
  | panic c => cases h3
  | outgrown => cases h3
theorem Calls.ret {P : Program} {f : FuncId} {args : Array Value} {w : World} {v : Value} (h : Calls P f args w (Post w [] fun u L => u = v ∧ L = [])) : Calls P f args w (Ret w v) :=
  h.mono fun e w' ⟨u, L', h1, h2, h3, h4⟩ => by subst h3 h4; exact ⟨h1, h2⟩
end Go.E
