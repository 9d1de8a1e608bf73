/-
  The program logic, fifteenth part: stores and copies told by what the block holds then; arrays as values; literals that are one's own.
-/
import Derived.Test.YtaoicbjgkghnnaaE2
import Derived.Test.YtaoicbjgkghnnaaM1
import Derived.Laws.Cells
import Derived.Laws.Append
import Derived.Laws.CopyRow
import Derived.ChangeKeysEq
namespace Go.E
set_option linter.unusedVariables false
set_option linter.unusedSectionVars false
variable {C : Ctx} {env : Env} {L : List Assn}
variable {dst : Option Tmp} {ty : TypeId} {pos : String} {after : Array Edge} {guard : Option (Nat × Bool)} {x y z : Operand} {v : Value} {T T' e : TypeId} {b o : Nat} {cs cs' : List Value} {K' : Value → List Assn → Prop}
theorem Qt.index_str {i : Nat} {ki : IntKind} {s : ByteArray} {c : UInt8} (ht : C.P.underlying T = some .string) (hx : env.ev x = .string s) (hy : env.ev y = .int ki (i : Int)) (hv : s[i]? = some c) :
    Qt C L ⟨dst, .index T x y, ty, pos, after, guard⟩ env (.int .u8 (c.toNat : Int)) := fun w _ => by
  simp [execOp, hx, hy, Instr.index, asIntOf, run_underlying ht, hv]
theorem OpV.storeE0 {R : List Assn} (hx : env.ev x = .pointer (some ⟨b, o, none⟩)) (hy : env.ev y = v) (hs : (C.P.info? T).map (·.size) = some 1) (hv : vl v = [v]) (h1 : v.oneCell' = true) (hl : o < cs.length) (hc : cs.set o v = cs')
    (h : K' undef (Blk b T' cs' :: R)) : OpV C ⟨dst, .store T x y, ty, pos, after, guard⟩ env (Blk b T' cs :: R) K' :=
  OpV.storeG (L1 := []) hx hy (by rw [hv]; exact hs) (by rw [hv]; simp [h1]) (by rw [hv]; exact hl) (by rw [hv]; exact (spl_one hl).trans hc) h
theorem OpV.storeE1 {B0 : Assn} {R : List Assn} (hx : env.ev x = .pointer (some ⟨b, o, none⟩)) (hy : env.ev y = v) (hs : (C.P.info? T).map (·.size) = some 1) (hv : vl v = [v]) (h1 : v.oneCell' = true) (hl : o < cs.length) (hc : cs.set o v = cs')
    (h : K' undef (B0 :: Blk b T' cs' :: R)) : OpV C ⟨dst, .store T x y, ty, pos, after, guard⟩ env (B0 :: Blk b T' cs :: R) K' :=
  OpV.storeG (L1 := [B0]) hx hy (by rw [hv]; exact hs) (by rw [hv]; simp [h1]) (by rw [hv]; exact hl) (by rw [hv]; exact (spl_one hl).trans hc) h
theorem Qt.as {o : Oper} {v v' : Value} (h : Qt C L o env v) (e : v = v') : Qt C L o env v' := e ▸ h
theorem setSeq (l : List Value) : ∀ (p s r : List Value) (o : Nat), o = p.length → s.length = l.length →
    (l.toArray.zipIdx.foldl (fun (cs : Array Value) (c, j) => cs.setIfInBounds (o + j) c) (p ++ s ++ r).toArray) = (p ++ l ++ r).toArray := by
  have key : ∀ (l p s r : List Value) (o k : Nat), o + k = p.length → s.length = l.length →
      ((l.zipIdx k).foldl (fun (cs : Array Value) (c, j) => cs.setIfInBounds (o + j) c) (p ++ s ++ r).toArray) = (p ++ l ++ r).toArray := by
    intro l
    induction l with
    | nil => intro p s r o k _ h; obtain rfl : s = [] := List.eq_nil_of_length_eq_zero h; rfl
    | cons c l ih =>
      intro p s r o k ho h
      cases s with
      | nil => simp at h
      | cons d s =>
        rw [List.zipIdx_cons, List.foldl_cons]
        have e : (p ++ d :: s ++ r).toArray.setIfInBounds (o + k) c = (p ++ [c] ++ s ++ r).toArray := by
          rw [ho]; simp
        dsimp only
        rw [e, ih (p ++ [c]) s r o (k + 1) (by simp; omega) (by simpa using h)]
        simp
  intro p s r o ho h
  rw [← Array.foldl_toList, Array.toList_zipIdx]
  exact key l p s r o 0 (by omega) h
/-- The values stand one behind the other, from the k-th place at o on. -/
def Places (pl : Nat → Option (Nat × Nat)) : List Value → Nat → Nat → Prop
  | [], _, _ => True
  | v :: vs, k, o => pl k = some (o, (vl v).length) ∧ Places pl vs (k + 1) (o + (vl v).length)
theorem fillOff (pl : Nat → Option (Nat × Nat)) : ∀ (vs : List Value) (k : Nat) (p s r : List Value), Places pl vs k p.length → s.length = (vs.flatMap vl).length →
    Instr.fill pl (p ++ s ++ r).toArray ((vs.zipIdx k).map fun q => (q.2, q.1)) = some (p ++ vs.flatMap vl ++ r).toArray
  | [], k, p, s, r, _, hs => by
    obtain rfl : s = [] := List.eq_nil_of_length_eq_zero (by simpa using hs)
    simp [Instr.fill]
  | v :: vs, k, p, s, r, h, hs => by
    obtain ⟨h1, h2⟩ := h
    rw [List.flatMap_cons, List.length_append] at hs
    have hc : v.cells = (vl v).toArray := vl_cells v
    have e1 : p ++ s ++ r = p ++ s.take (vl v).length ++ (s.drop (vl v).length ++ r) := by
      rw [List.append_assoc p, List.append_assoc p, ← List.append_assoc (s.take _), List.take_append_drop]
    have h3 := setSeq (vl v) p (s.take (vl v).length) (s.drop (vl v).length ++ r) p.length rfl (by rw [List.length_take]; omega)
    rw [List.zipIdx_cons, List.map_cons]
    simp only [Instr.fill, h1, hc]
    rw [if_neg (by simp; omega)]
    rw [e1, h3]
    have ih := fillOff pl vs (k + 1) (p ++ vl v) (s.drop (vl v).length) r (by rw [List.length_append]; exact h2) (by rw [List.length_drop]; omega)
    rw [← List.append_assoc, ih, List.flatMap_cons]
    simp
theorem zeroOf_run {P : Program} {T : TypeId} {zs : List Value} (h : zeroOf P T = some zs) : ∃ z, (∀ w, (zeroValue T).run P w = .ok z w) ∧ z.cells = zs.toArray := by
  unfold zeroOf at h
  obtain ⟨z, hz, rfl⟩ := Option.map_eq_some_iff.1 h
  exact ⟨z, fun w => run_zero1 hz, vl_cells z⟩
/-- A struct whose fields are all given. -/
theorem Qt.buildS {fs : Array Field} {pls : Array (Nat × Nat)} {parts : List (Nat × Operand)} {vs zs : List Value} (ht : C.P.underlying T = some (.struct fs)) (hpl : ∀ w, (fs.mapM fun f => do pure (f.offset, ← sizeOf f.type) : Sem (Array (Nat × Nat))).run C.P w = .ok pls w) (hz : zeroOf C.P T = some zs)
    (hp : parts.map (fun q => (q.1, env.ev q.2)) = (vs.zipIdx 0).map fun q => (q.2, q.1)) (hv : Places (fun i => pls[i]?) vs 0 0) (hl : zs.length = (vs.flatMap vl).length) : Qt C L ⟨dst, .build T parts.toArray, ty, pos, after, guard⟩ env (.agg (vs.flatMap vl).toArray) := fun w _ => by
  obtain ⟨z, hz1, hz2⟩ := zeroOf_run hz
  have hl1 : (parts.toArray.map fun (i, x) => (i, env.ev x)).toList = (vs.zipIdx 0).map fun q => (q.2, q.1) := by rw [← hp]; simp
  have hf := fillOff (fun i => pls[i]?) vs 0 [] zs [] hv hl
  simp only [List.nil_append, List.append_nil] at hf
  simp only [execOp, Instr.build, Sem.run_bind, hz1, run_underlying ht, Result.andThen_ok, hpl, Sem.run_pure, hz2, hl1, hf]
end Go.E
