/-
  Plain words and laws for the volume's statements: lists of indices, errors as numbers. Plain words and laws for the volume's statements: what a volume's calls do to a list of pairs. Maps whose keys are numbers of 64 bits. Plain laws for what deletes and counts while it goes through a map. Equality of hashes and blocks.
-/
import Derived.Test.YtgdjcmehlhebdaaGreatDoorE2
import Derived.ChangeKeysEq
import Derived.Laws.StructEq
namespace Go.E
def u64s (xs : List Nat) : List Value := xs.map fun (x : Nat) => .int .u64 (x : Int)
theorem u64s_get {xs : List Nat} {i k : Nat} (h : i < xs.length) (hk : k = i) : (u64s xs)[k]? = some (.int .u64 ((xs.getD i 0 : Nat) : Int)) := by
  subst hk; simp [u64s, List.getElem?_eq_getElem h, List.getD]
theorem u64s_len (xs : List Nat) : (u64s xs).length = xs.length := by simp [u64s]
theorem u64s_drop (xs : List Nat) (k : Nat) : (u64s xs).drop k = u64s (xs.drop k) := by simp [u64s]
def errv (T : Nat) (k : Nat) : Value := if k = 0 then .nilIface else .iface T (.int .i64 (k : Int))
theorem errv_zero (T : Nat) : errv T 0 = .nilIface := rfl
theorem errv_pos {T k : Nat} (h : k ≠ 0) : errv T k = .iface T (.int .i64 (k : Int)) := if_neg h

def Rising (xs : List Nat) : Prop := ∀ i, i + 1 < xs.length → xs.getD i 0 < xs.getD (i + 1) 0
open Classical in
noncomputable def asked (xs : List Nat) (n : Nat) : Nat :=
  if 256 < xs.length then 3 else if xs.length = 0 then 2
  else if Rising xs then (if n ≤ xs.getD (xs.length - 1) 0 then 1 else 0) else 2
end Go.E
namespace Go.E
abbrev Ms := List (Nat × H32)
def encU (x : Nat) : Value := .int .u64 (x : Int)
def cut (ms : Ms) (xs : List Nat) : Ms := xs.foldl (fun m x => delR x m) ms
theorem hcs_at {l : List H32} {i k : Nat} (h : i < l.length) (hk : k = i * 32) : ∀ j v, (hvl (l.getD i zeroH))[j]? = some v → (hcs l)[k + j]? = some v := by
  subst hk
  exact hcs_get l i _ (by simp [List.getD, h])
end Go.E
namespace Go.E
theorem equalIn_int {P : Program} {w : World} {T : TypeId} {k k' : IntKind} {a b : Int} (ht : P.underlying T = some (.int k')) (d : Nat) : (Op.equalIn (d + 1) T (.int k a) (.int k b)).run P w = .ok (a == b) w := by
  simp [Op.equalIn, run_underlying ht]
theorem checkKey_int {P : Program} {w : World} {T : TypeId} {k k' : IntKind} {a : Int} {e : Bool} (ht : P.underlying T = some (.int k')) (d : Nat) : (Instr.checkKey e (d + 1) T (.int k a)).run P w = .ok () w := by
  simp [Instr.checkKey, run_underlying ht]
end Go.E
namespace Go.E
set_option linter.unusedSectionVars false
set_option linter.unusedVariables false
section
variable {κ α : Type} [DecidableEq κ]
theorem keys_len (ms : List (κ × α)) : (keysOf ms).length = ms.length := by simp [keysOf]
theorem keys_filter {ms : List (κ × α)} (f : κ × α → Bool) (h : (keysOf ms).Nodup) : (keysOf (ms.filter f)).Nodup :=
  h.sublist (List.Sublist.map _ (List.filter_sublist ..))
end
def keep (q : Nat) (ms : Ms) : Ms := ms.filter fun p => decide (p.1 < q)
def beyond (q : Nat) (ms : Ms) : Nat := (ms.filter fun p => decide (q ≤ p.1)).length
def cur (q : Nat) (ms : Ms) (done : List Nat) : Ms := ms.filter fun p => !(decide (p.1 ∈ done) && decide (q ≤ p.1))
section
variable {C : Ctx} {Q : EQ} {env : Env} {ops : Array Oper} {l : List Oper} {κ α : Type} [DecidableEq κ] {enc : κ → Value} {encv : α → Value} {ms : List (κ × α)} {b it : Nat} {done : List κ}
end
end Go.E
namespace Go.E
end Go.E
namespace Go.E
theorem Qt.makeFuncL {C : Ctx} {env : Env} {L : List Assn} {dst : Option Tmp} {ty : TypeId} {pos : String} {after : Array Edge} {guard : Option (Nat × Bool)} {fn : Fn} {first captured : Array Operand} {fs cs : List Value} (h1 : first.toList.map env.ev = fs) (h2 : captured.toList.map env.ev = cs) :
    Qt C L ⟨dst, .makeFunc fn first captured, ty, pos, after, guard⟩ env (.func fn fs.toArray cs.toArray) := Qt.makeFunc (by rw [← h1]; apply Array.ext'; simp) (by rw [← h2]; apply Array.ext'; simp)
theorem fold_set (o : Nat) (ho : o = 0) : ∀ (l p s : List Value), l.length = s.length → (l.zipIdx p.length).foldl (fun (cs : Array Value) (q : Value × Nat) => cs.setIfInBounds (o + q.2) q.1) (p ++ s).toArray = (p ++ l).toArray
  | [], p, s, h => by
    have : s = [] := List.eq_nil_of_length_eq_zero (by simpa using h.symm)
    subst this; rfl
  | c :: l, p, s, h => by
    subst ho
    match s, h with
    | d :: s, h =>
      have hs : (p ++ d :: s).toArray.setIfInBounds (0 + p.length) c = ((p ++ [c]) ++ s).toArray := by
        simp
      rw [List.zipIdx_cons, List.foldl_cons]
      dsimp only
      rw [hs]
      have ih := fold_set 0 rfl l (p ++ [c]) s (by simpa using h)
      rw [List.length_append] at ih
      simp only [List.length_cons, List.length_nil] at ih
      refine (show _ = _ from ih).trans ?_
      simp
def elemB (P : Program) (e : TypeId) (sz bytes : Nat) : Bool := match P.info? e with
  | some i => match i.zero with
    | some z => i.size == sz && (i.bytes == bytes && (z.cells.size == sz && decide (0 < sz)))
    | none => false
  | none => false
theorem elemT_of {P : Program} {e : TypeId} {sz bytes : Nat} (h : elemB P e sz bytes = true) : elemT P e sz bytes := by
  unfold elemB at h
  cases hi : P.info? e with
  | none => rw [hi] at h; cases h
  | some i =>
    rw [hi] at h
    dsimp only at h
    cases hz : i.zero with
    | none => rw [hz] at h; cases h
    | some z =>
      rw [hz] at h
      simp only [Bool.and_eq_true, beq_iff_eq, decide_eq_true_eq] at h
      exact ⟨i, z, hi, hz, h.1, h.2.1, h.2.2.1, h.2.2.2⟩
theorem fill1 {zs : Array Value} {v : Value} {sz : Nat} (h : zs.size = sz) (hv : v.cells.size = sz) : Instr.fill (fun i => some (i * sz, sz)) zs [(0, v)] = some v.cells := by
  have hf : (v.cells.zipIdx.foldl (fun cs (c, j) => cs.setIfInBounds (0 * sz + j) c) zs) = v.cells := by
    have h1 := fold_set (0 * sz) (Nat.zero_mul sz) v.cells.toList [] zs.toList (by simp [h, hv])
    simp only [List.nil_append, List.length_nil, Array.toArray_toList] at h1
    rw [← Array.foldl_toList, Array.toList_zipIdx]
    exact h1
  simp only [Instr.fill, hf]
  rw [if_neg (by simp [h, hv])]
theorem OpV.slice1 {C : Ctx} {env : Env} {L : List Assn} {dst : Option Tmp} {ty : TypeId} {pos : String} {after : Array Edge} {guard : Option (Nat × Bool)} {x : Operand} {T e : TypeId} {v : Value} {sz bytes : Nat} {K : Value → List Assn → Prop} (ht : C.P.underlying T = some (.slice e)) (he : elemT C.P e sz bytes) (hle : sz ≤ 16777216) (hx : env.ev x = v) (hl : (vl v).length = sz)
    (h : ∀ b, K (.slice (some ⟨b, 0, none⟩) 1 1) (Blk b e (vl v) :: L)) : OpV C ⟨dst, .buildSlice T 1 #[(0, x)], ty, pos, after, guard⟩ env L K := by
  obtain ⟨i, z, h1, h2, h3, h4, h5, h6⟩ := he
  have hc : v.cells = (vl v).toArray := by rw [← vl_cells]
  refine OpV.buildSliceR (sz := sz) (cs := vl v) ht (by rw [h1]; exact congrArg some h3) (by omega) ⟨z, by simp [zero1, h1, h2], ?_⟩ h
  have : ((#[(0, x)] : Array (Nat × Operand)).map fun (i, x) => (i, env.ev x)).toList = [(0, v)] := by simp [hx]
  rw [this, ← hc]
  exact fill1 (by simp) (by rw [hc]; simpa using hl)
end Go.E
namespace Go.E
theorem bytesL_get {l : List UInt8} {i : Nat} (h : i < l.length) : (bytesL l).toArray[i]? = some (.int .u8 ((l.getD i 0).toNat : Int)) := by
  simp [bytesL, h, List.getD]
theorem run_eqItems_u8 {P : Program} {w : World} (d : Nat) {e : TypeId} (he : P.underlying e = some (.int .u8)) (xs ys : List UInt8) : ∀ is : List Nat, (∀ i ∈ is, i < xs.length ∧ i < ys.length) →
    (Op.eqItems (d + 1) e 1 (bytesL xs).toArray (bytesL ys).toArray is).run P w = .ok (is.all fun i => decide (xs.getD i 0 = ys.getD i 0)) w
  | [], _ => by simp [Op.eqItems]
  | i :: is, h => by
    have hp : P.plainKey e = true := by simp [Program.plainKey, he]
    have hi := h i (List.mem_cons_self ..)
    have p1 := run_part_plain (P := P) w hp (xs := (bytesL xs).toArray) (off := i * 1) (by rw [Nat.mul_one]; exact bytesL_get hi.1)
    have p2 := run_part_plain (P := P) w hp (xs := (bytesL ys).toArray) (off := i * 1) (by rw [Nat.mul_one]; exact bytesL_get hi.2)
    have p3 := equalIn_int (P := P) (w := w) (k := .u8) (a := ((xs.getD i 0).toNat : Int)) (b := ((ys.getD i 0).toNat : Int)) he d
    have ih := run_eqItems_u8 (w := w) d he xs ys is fun j hj => h j (List.mem_cons_of_mem _ hj)
    simp only [Op.eqItems, Sem.run_bind, p1, p2, p3, Result.andThen_ok, List.all_cons]
    by_cases hx : xs.getD i 0 = ys.getD i 0
    · simp only [hx, decide_true, Bool.true_and]
      simpa using ih
    · have hne : ¬ ((xs.getD i 0).toNat : Int) = ((ys.getD i 0).toNat : Int) := fun e => hx (UInt8.toNat_inj.1 (by omega))
      have hd : decide (xs.getD i 0 = ys.getD i 0) = false := decide_eq_false hx
      have hb : (((xs.getD i 0).toNat : Int) == ((ys.getD i 0).toNat : Int)) = false := by rw [beq_eq_false_iff_ne]; exact hne
      rw [hd, hb]
      rfl
theorem all_getD {xs ys : List UInt8} (h1 : xs.length = 32) (h2 : ys.length = 32) : ((List.range 32).all fun i => decide (xs.getD i 0 = ys.getD i 0)) = decide (xs = ys) := by
  rw [Bool.eq_iff_iff]
  simp only [List.all_eq_true, List.mem_range, decide_eq_true_eq]
  constructor
  · intro h
    refine List.ext_getElem (by omega) fun i h3 h4 => ?_
    have := h i (by omega)
    simpa [List.getD, h3, h4] using this
  · rintro rfl i _; rfl
theorem equalIn_hv {P : Program} {w : World} {T e : TypeId} {a b : H32} (ht : P.underlying T = some (.array 32 e)) (he : P.underlying e = some (.int .u8)) (hs : (P.info? e).map (·.size) = some 1) (d : Nat) :
    (Op.equalIn (d + 2) T (hv a) (hv b)).run P w = .ok (decide (a = b)) w := by
  obtain ⟨i, hi, h1⟩ := Option.map_eq_some_iff.1 hs
  have hc : P.cellsOf e = 1 := by simp [Program.cellsOf, hi, h1]
  have := run_eqItems_u8 (P := P) (w := w) d he a.1 b.1 (List.range 32) (fun i h => by rw [a.2, b.2]; simpa using h)
  rw [show hv a = .agg (bytesL a.1).toArray from rfl, show hv b = .agg (bytesL b.1).toArray from rfl, run_equalIn_array w (d + 1) _ _ ht hi, hc, this, all_getD a.2 b.2]
  congr 1
  rw [Bool.eq_iff_iff]; simp only [decide_eq_true_eq]
  exact ⟨Subtype.ext, fun h => h ▸ rfl⟩
section
variable {C : Ctx} {env : Env} {L : List Assn} {dst : Option Tmp} {ty ty2 : TypeId} {pos : String} {after : Array Edge} {guard : Option (Nat × Bool)} {x y : Operand} {T e : TypeId} {a b : H32}
theorem Qt.eqH (hm : C.P.eqGuardType C.P.depth T = false) (ht : C.P.underlying T = some (.array 32 e)) (he : C.P.underlying e = some (.int .u8)) (hs : (C.P.info? e).map (·.size) = some 1) (hx : env.ev x = hv a) (hy : env.ev y = hv b) : Qt C L ⟨dst, .binOp .eql T x y ty2, ty, pos, after, guard⟩ env (.bool (decide (a = b))) := fun w _ => by
  have h := equalIn_hv (P := C.P) (w := w) (a := a) (b := b) ht he hs 9998
  have h2 : (binOp .eql T (hv a) (hv b)).run C.P w = .ok (.bool (decide (a = b))) w := by
    rw [show hv a = .agg (bytesL a.1).toArray from rfl, show hv b = .agg (bytesL b.1).toArray from rfl] at h ⊢
    rw [run_eql_struct, h]; rfl
  have h3 : (eqGuard .eql T x y (hv a) (hv b)).run C.P w = .ok () w := run_eqGuard_agg w .eql T x y _ _ hm
  simp [execOp, hx, hy, h2, h3]
theorem Qt.neH (hm : C.P.eqGuardType C.P.depth T = false) (ht : C.P.underlying T = some (.array 32 e)) (he : C.P.underlying e = some (.int .u8)) (hs : (C.P.info? e).map (·.size) = some 1) (hx : env.ev x = hv a) (hy : env.ev y = hv b) : Qt C L ⟨dst, .binOp .neq T x y ty2, ty, pos, after, guard⟩ env (.bool (decide (a ≠ b))) := fun w _ => by
  have h := equalIn_hv (P := C.P) (w := w) (a := a) (b := b) ht he hs 9998
  have h2 : (binOp .neq T (hv a) (hv b)).run C.P w = .ok (.bool (decide (a ≠ b))) w := by
    rw [show hv a = .agg (bytesL a.1).toArray from rfl, show hv b = .agg (bytesL b.1).toArray from rfl] at h ⊢
    rw [run_neq_struct, h]; simp
  have h3 : (eqGuard .neq T x y (hv a) (hv b)).run C.P w = .ok () w := run_eqGuard_agg w .neq T x y _ _ hm
  simp [execOp, hx, hy, h2, h3]
end
theorem Ro.blk {w0 : World} {M : List Nat} {b : Nat} {T : TypeId} {cs : List Value} (h : Ro w0 M (Blk b T cs)) : Ro w0 M (SlA (some ⟨b, 0, none⟩) cs) :=
  ⟨fun j u hj => ⟨_, rfl, by rw [add_cell, cell_of_blk h.1]; simpa using hj⟩, fun k hk => by
    rw [SlA_fp] at hk
    obtain ⟨a, ha, rfl, _⟩ := mem_slfp hk
    injection ha with ha
    subst ha
    exact h.2 _ (by simp [Blk.fp])⟩
end Go.E
