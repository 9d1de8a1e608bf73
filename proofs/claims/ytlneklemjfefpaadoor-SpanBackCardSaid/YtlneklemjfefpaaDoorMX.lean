/-
  Equality of hashes and blocks.
-/
import Derived.Test.YtlneklemjfefpaaDoorMW
import Derived.ChangeKeysEq
import Derived.Laws.StructEq
namespace Go.E
theorem bytesL_get {l : List UInt8} {i : Nat} (h : i < l.length) : (bytesL l).toArray[i]? = some (.int .u8 ((l.getD i 0).toNat : Int)) := by
  simp [bytesL, h, List.getD]
theorem run_eqItems_u8 {P : Program} {w : World} (d : Nat) {e : TypeId} (he : P.underlying e = some (.int .u8)) (xs ys : List UInt8) : ∀ is : List Nat, (∀ i ∈ is, i < xs.length ∧ i < ys.length) →
    (Op.eqItems (d + 1) e 1 (bytesL xs).toArray (bytesL ys).toArray is).run P w = .ok (is.all fun i => decide (xs.getD i 0 = ys.getD i 0)) w
  | [], _ => by simp [Op.eqItems]
  | i :: is, h => by
    have hp : P.plainKey e = true := by simp [Program.plainKey, he]
    have hi := h i (List.mem_cons_self ..)
    have p1 := run_part_plain (P := P) w hp (xs := (bytesL xs).toArray) (off := i * 1) (by rw [Nat.mul_one]; exact bytesL_get hi.1)
    have p2 := run_part_plain (P := P) w hp (xs := (bytesL ys).toArray) (off := i * 1) (by rw [Nat.mul_one]; exact bytesL_get hi.2)
    have p3 := equalIn_int (P := P) (w := w) (k := .u8) (a := ((xs.getD i 0).toNat : Int)) (b := ((ys.getD i 0).toNat : Int)) he d
    have ih := run_eqItems_u8 (w := w) d he xs ys is fun j hj => h j (List.mem_cons_of_mem _ hj)
    simp only [Op.eqItems, Sem.run_bind, p1, p2, p3, Result.andThen_ok, List.all_cons]
    by_cases hx : xs.getD i 0 = ys.getD i 0
    · simp only [hx, decide_true, Bool.true_and]
      simpa using ih
    · have hne : ¬ ((xs.getD i 0).toNat : Int) = ((ys.getD i 0).toNat : Int) := fun e => hx (UInt8.toNat_inj.1 (by omega))
      have hd : decide (xs.getD i 0 = ys.getD i 0) = false := decide_eq_false hx
      have hb : (((xs.getD i 0).toNat : Int) == ((ys.getD i 0).toNat : Int)) = false := by rw [beq_eq_false_iff_ne]; exact hne
      rw [hd, hb]
      rfl
theorem all_getD {xs ys : List UInt8} (h1 : xs.length = 32) (h2 : ys.length = 32) : ((List.range 32).all fun i => decide (xs.getD i 0 = ys.getD i 0)) = decide (xs = ys) := by
  rw [Bool.eq_iff_iff]
  simp only [List.all_eq_true, List.mem_range, decide_eq_true_eq]
  constructor
  · intro h
    refine List.ext_getElem (by omega) fun i h3 h4 => ?_
    have := h i (by omega)
    simpa [List.getD, h3, h4] using this
  · rintro rfl i _; rfl
theorem equalIn_hv {P : Program} {w : World} {T e : TypeId} {a b : H32} (ht : P.underlying T = some (.array 32 e)) (he : P.underlying e = some (.int .u8)) (hs : (P.info? e).map (·.size) = some 1) (d : Nat) :
    (Op.equalIn (d + 2) T (hv a) (hv b)).run P w = .ok (decide (a = b)) w := by
  obtain ⟨i, hi, h1⟩ := Option.map_eq_some_iff.1 hs
  have hc : P.cellsOf e = 1 := by simp [Program.cellsOf, hi, h1]
  have := run_eqItems_u8 (P := P) (w := w) d he a.1 b.1 (List.range 32) (fun i h => by rw [a.2, b.2]; simpa using h)
  rw [show hv a = .agg (bytesL a.1).toArray from rfl, show hv b = .agg (bytesL b.1).toArray from rfl, run_equalIn_array w (d + 1) _ _ ht hi, hc, this, all_getD a.2 b.2]
  congr 1
  rw [Bool.eq_iff_iff]; simp only [decide_eq_true_eq]
  exact ⟨Subtype.ext, fun h => h ▸ rfl⟩
section
variable {C : Ctx} {env : Env} {L : List Assn} {dst : Option Tmp} {ty ty2 : TypeId} {pos : String} {after : Array Edge} {guard : Option (Nat × Bool)} {x y : Operand} {T e : TypeId} {a b : H32}
theorem Qt.eqH (hm : C.P.eqGuardType C.P.depth T = false) (ht : C.P.underlying T = some (.array 32 e)) (he : C.P.underlying e = some (.int .u8)) (hs : (C.P.info? e).map (·.size) = some 1) (hx : env.ev x = hv a) (hy : env.ev y = hv b) : Qt C L ⟨dst, .binOp .eql T x y ty2, ty, pos, after, guard⟩ env (.bool (decide (a = b))) := fun w _ => by
  have h := equalIn_hv (P := C.P) (w := w) (a := a) (b := b) ht he hs 9998
  have h2 : (binOp .eql T (hv a) (hv b)).run C.P w = .ok (.bool (decide (a = b))) w := by
    rw [show hv a = .agg (bytesL a.1).toArray from rfl, show hv b = .agg (bytesL b.1).toArray from rfl] at h ⊢
    rw [run_eql_struct, h]; rfl
  have h3 : (eqGuard .eql T x y (hv a) (hv b)).run C.P w = .ok () w := run_eqGuard_agg w .eql T x y _ _ hm
  simp [execOp, hx, hy, h2, h3]
theorem Qt.neH (hm : C.P.eqGuardType C.P.depth T = false) (ht : C.P.underlying T = some (.array 32 e)) (he : C.P.underlying e = some (.int .u8)) (hs : (C.P.info? e).map (·.size) = some 1) (hx : env.ev x = hv a) (hy : env.ev y = hv b) : Qt C L ⟨dst, .binOp .neq T x y ty2, ty, pos, after, guard⟩ env (.bool (decide (a ≠ b))) := fun w _ => by
  have h := equalIn_hv (P := C.P) (w := w) (a := a) (b := b) ht he hs 9998
  have h2 : (binOp .neq T (hv a) (hv b)).run C.P w = .ok (.bool (decide (a ≠ b))) w := by
    rw [show hv a = .agg (bytesL a.1).toArray from rfl, show hv b = .agg (bytesL b.1).toArray from rfl] at h ⊢
    rw [run_neq_struct, h]; simp
  have h3 : (eqGuard .neq T x y (hv a) (hv b)).run C.P w = .ok () w := run_eqGuard_agg w .neq T x y _ _ hm
  simp [execOp, hx, hy, h2, h3]
end
theorem Ro.blk {w0 : World} {M : List Nat} {b : Nat} {T : TypeId} {cs : List Value} (h : Ro w0 M (Blk b T cs)) : Ro w0 M (SlA (some ⟨b, 0, none⟩) cs) :=
  ⟨fun j u hj => ⟨_, rfl, by rw [add_cell, cell_of_blk h.1]; simpa using hj⟩, fun k hk => by
    rw [SlA_fp] at hk
    obtain ⟨a, ha, rfl, _⟩ := mem_slfp hk
    injection ha with ha
    subst ha
    exact h.2 _ (by simp [Blk.fp])⟩
def oneH : H32 := ⟨1 :: List.replicate 31 0, by simp⟩
end Go.E
