/-
  The program logic, sixteenth part: the capacity, growing by a number of empty elements, slices that overlap.
-/
import Derived.Test.YtlneklemjfefpaaDoorEQ
import Derived.Lib.Overlaps
import Derived.Laws.AppendOwn
namespace Go.E
set_option linter.unusedVariables false
set_option linter.unusedSectionVars false
variable {C : Ctx} {Q : EQ} {env : Env} {L : List Assn}
variable {dst : Option Tmp} {ty : TypeId} {pos : String} {after : Array Edge} {guard : Option (Nat × Bool)} {x y : Operand} {T T2 e : TypeId} {K : Value → List Assn → Prop}
theorem Qt.capS {A : Option Addr} {n c : Nat} (ht : C.P.underlying T = some (.slice e)) (hx : env.ev x = .slice A n c) :
    Qt C L ⟨dst, .call { callee := .builtin .cap, args := #[x], argTypes := #[T] }, ty, pos, after, guard⟩ env (.int .i64 (c : Int)) := fun w _ => by
  simp [execOp, resolve, invoke, builtin, hx, Builtin.cap_, run_underlying ht]
  rfl
theorem run_append_grow0 {P : Program} (w : World) (t tn ty e : TypeId) (i : TypeInfo) (z : Value) (ht : P.underlying t = some (.slice e)) (htn : P.underlying tn = some (.int .i64)) (hi : P.info? e = some i) (hz : i.zero = some z)
    (A : Option Addr) (c n : Nat) (hs : 0 < i.size) (hk : c < n) (hm : n ≤ maxLen) (hby : n * i.bytes ≤ 140737488355328) :
    (Builtin.append_ #[t, tn] ty #[.slice A 0 c, .int .i64 n]).run P w =
      .ok (.slice (some ⟨w.heap.size, 0, none⟩) n (grownCap w n c e)) (w.drew.alloc (.cells (Builtin.zeroCells z.cells n ++ Builtin.zeroCells z.cells (grownCap w n c e - n)) e)) := by
  simp only [maxLen] at hm
  have hn : n ≠ 0 := by omega
  have hw : IntKind.i64.wrap (n : Int) = n := by rw [IntKind.wrap_i64]; omega
  have h63' : ¬ (9223372036854775807 < (n : Int)) := by omega
  have h48' : ¬ (281474976710656 < Builtin.nextslicecap n c * i.bytes) := by have := growslice_fits (bytes := i.bytes) hk hby; omega
  have h48i : ¬ (281474976710656 < (n : Int) * (i.bytes : Int)) := by
    rw [← Int.natCast_mul]
    omega
  have hneg : ¬ ((n : Int) < 0) := by omega
  have hns : ¬ (n * i.size = 0) := Nat.mul_ne_zero hn (by omega)
  have hck : ¬ n ≤ c := by omega
  have hf : (Builtin.firstCells i.size 0 (.slice A 0 c)).run P w.drew = .ok #[] w.drew := by cases A <;> simp [Builtin.firstCells, loadCells, loadCellsFrom]
  simp [Builtin.append_, run_underlying ht, run_underlying htn, sizeOf, typeInfo, zeroValue, hi, hz, asInt, asIntOf, hw, hneg, hns, h63', h48', h48i, hck, Question.forced, hf, newRow, grownCap]
/-- A slice of nothing, grown by a number of empty elements beyond its room. -/
theorem OpV.appZ {A : Option Addr} {c k sz bytes : Nat} (ht : C.P.underlying T = some (.slice e)) (htn : C.P.underlying T2 = some (.int .i64)) (he : elemT C.P e sz bytes) (hx : env.ev x = .slice A 0 c) (hy : env.ev y = .int .i64 (k : Int)) (hk : c < k) (hkm : k ≤ maxLen) (hby : k * bytes ≤ 140737488355328)
    (h : ∀ b c' cs, k ≤ c' → c' ≤ maxLen → cs.length = c' * sz → K (.slice (some ⟨b, 0, none⟩) k c') (Blk b e cs :: L)) : OpV C ⟨dst, .call { callee := .builtin .append, args := #[x, y], argTypes := #[T, T2] }, ty, pos, after, guard⟩ env L K := fun w hw => by
  obtain ⟨i, zv, hi, hz, hsz, hb, hzs, hpos⟩ := he
  have hrun := run_append_grow0 (P := C.P) w T T2 ty e i zv ht htn hi hz A c k (by rw [hsz]; exact hpos) hk hkm (by rw [hb]; exact hby)
  have hrun' : (execOp env.ev ⟨dst, .call { callee := .builtin .append, args := #[x, y], argTypes := #[T, T2] }, ty, pos, after, guard⟩).run C.P w = .ok (.value (.slice (some ⟨w.heap.size, 0, none⟩) k (grownCap w k c e))) (w.drew.alloc (.cells (Builtin.zeroCells zv.cells k ++ Builtin.zeroCells zv.cells (grownCap w k c e - k)) e)) := by
    simp only [execOp, resolve, invoke, builtin, Sem.run_bind, Sem.run_pure, Result.andThen_ok, List.map_toArray, List.map_cons, List.map_nil, hx, hy, hrun]
  rw [hrun']
  have hge := grownCap_ge w k c e
  have hcm : grownCap w k c e ≤ maxLen := grownCap_le_maxLen w k c e hkm
  refine ⟨_, ?_, h w.heap.size (grownCap w k c e) (Builtin.zeroCells zv.cells k ++ Builtin.zeroCells zv.cells (grownCap w k c e - k)).toList hge hcm ?_⟩
  · have hg : w.grownBy (w.drew.alloc (.cells (Builtin.zeroCells zv.cells k ++ Builtin.zeroCells zv.cells (grownCap w k c e - k)) e)) none := ⟨rfl, rfl, rfl, by simp, fun k hk _ => heap_alloc_old w.drew _ k hk⟩
    have hst := St.of_grown (A' := Blk w.heap.size e (Builtin.zeroCells zv.cells k ++ Builtin.zeroCells zv.cells (grownCap w k c e - k)).toList) hg (by
      show (w.drew.alloc _).heap[w.heap.size]? = _
      rw [Array.toArray_toList]; exact heap_alloc_new w.drew _) (fun b hb => by
        obtain rfl : b = w.heap.size := List.mem_singleton.1 hb
        exact ⟨by simp, .inr (Nat.le_refl _)⟩) (List.pairwise_singleton _ _)
    have hw' : St C.w0 C.M ([] ++ L) w := hw
    exact hw'.frame hst
  · rw [Array.length_toList, Array.size_append, size_zeroCells, size_zeroCells, hzs, ← Nat.add_mul]
    congr 1; omega
/-- Two slices in two blocks do not overlap. -/
theorem Qt.overlaps {f : FuncId} {fn : Func} {TR T1 T2 : TypeId} {a1 a2 : Operand} {g1 o1 la ca g2 o2 lb cb sz : Nat} {cs1 cs2 : List Value} {tys : Array TypeId} {fo : Operand} (hf : C.P.funcs[f]? = some fn) (hname : (fn.name == "runtime.NumGoroutine") = false) (hb : fn.body.isNone = true) (hn : Extern.findNext fn = none) (he : Extern.find fn = some (Extern.SlicesOverlaps.overlaps #[T, T] #[TR]))
    (ht : C.P.underlying T = some (.slice e)) (hsz : (C.P.info? e).map (·.size) = some sz) (hfo : env.ev fo = .func (.func f) #[] #[]) (h1 : env.ev a1 = .slice (some ⟨g1, o1, none⟩) la ca) (h2 : env.ev a2 = .slice (some ⟨g2, o2, none⟩) lb cb) (hA : Has C L (Blk g1 T1 cs1)) (hB : Has C L (Blk g2 T2 cs2)) (hg : g1 ≠ g2) (hl : cs2.length ≠ 0) :
    Qt C L ⟨dst, .call { callee := .value fo, args := #[a1, a2], argTypes := tys }, ty, pos, after, guard⟩ env (.bool false) := fun w hw => by
  obtain ⟨inf, hin, hs⟩ := Option.map_eq_some_iff.1 hsz
  have k1 : w.heap[g1]? = some (.cells cs1.toArray T1 (0, 0)) := hA w hw
  have k2 : w.heap[g2]? = some (.cells cs2.toArray T2 (0, 0)) := hB w hw
  have hr := Lib.run_overlaps_apart (P := C.P) w T TR e ht sz (fun w => by rw [← hs]; simp [sizeOf, typeInfo, hin]) ⟨g1, o1, none⟩ ⟨g2, o2, none⟩ la ca lb cb hg T1 T2 cs1.length cs2.length (by simp [World.shape?, k1]) (by simp [World.shape?, k2]) hl (by simp [World.frozen?, k1]) (by simp [World.frozen?, k1])
  have hc := run_callFunc_extern hf hname hb hn he #[.slice (some ⟨g1, o1, none⟩) la ca, .slice (some ⟨g2, o2, none⟩) lb cb] w
  rw [hr] at hc
  simp [execOp, resolve, hfo, h1, h2, Deferred.ofValue, invoke, hc]
end Go.E
