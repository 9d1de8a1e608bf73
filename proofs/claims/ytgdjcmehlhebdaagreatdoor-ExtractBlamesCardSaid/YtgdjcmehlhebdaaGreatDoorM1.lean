/- Plain words and laws for the volume's statements: lists of indices, errors as numbers. -/
import Derived.Test.YtgdjcmehlhebdaaGreatDoorE2
import Derived.ChangeKeysEq
import Derived.Laws.StructEq
set_option maxHeartbeats 25600000
namespace Go.E
def u64s (xs : List Nat) : List Value := xs.map fun (x : Nat) => .int .u64 (x : Int)
theorem zlF {xs : List Nat} {i k : Nat} (h : i < xs.length) (hk : k = i) : (u64s xs)[k]? = some (.int .u64 ((xs.getD i 0 : Nat) : Int)) := by
 subst hk; simp [u64s, List.getElem?_eq_getElem h, List.getD]
theorem zbi (xs : List Nat) : (u64s xs).length = xs.length := by simp [u64s]
theorem znM (xs : List Nat) (k : Nat) : (u64s xs).drop k = u64s (xs.drop k) := by simp [u64s]
def errv (T : Nat) (k : Nat) : Value := if k = 0 then .nilIface else .iface T (.int .i64 (k : Int))
theorem znN (T : Nat) : errv T 0 = .nilIface := rfl
theorem zdd {T k : Nat} (h : k ≠ 0) : errv T k = .iface T (.int .i64 (k : Int)) := if_neg h
def zrI (xs : List Nat) : Prop := ∀ i, i + 1 < xs.length → xs.getD i 0 < xs.getD (i + 1) 0
open Classical in
noncomputable def ztT (xs : List Nat) (n : Nat) : Nat :=
 if 256 < xs.length then 3 else if xs.length = 0 then 2
 else if zrI xs then (if n ≤ xs.getD (xs.length - 1) 0 then 1 else 0) else 2
abbrev Ms := List (Nat × H32)
def encU (x : Nat) : Value := .int .u64 (x : Int)
theorem zlG {a b : Nat} (h : encU a = encU b) : a = b := by
 injection h with _ h; omega
def cut (ms : Ms) (xs : List Nat) : Ms := xs.foldl (fun m x => delR x m) ms
theorem znO {l : List H32} {i k : Nat} (h : i < l.length) (hk : k = i * 32) : ∀ j v, (hvl (l.getD i zac))[j]? = some v → (hcs l)[k + j]? = some v := by
 subst hk
 exact znJ l i _ (by simp [List.getD, h])
theorem zep {P : Program} {w : World} {T : TypeId} {k k' : IntKind} {a b : Int} (ht : P.underlying T = some (.int k')) (d : Nat) : (Op.equalIn (d + 1) T (.int k a) (.int k b)).run P w = .ok (a == b) w := by
 simp [Op.equalIn, run_underlying ht]
theorem zdI {P : Program} {w : World} {T : TypeId} {k k' : IntKind} {a : Int} {e : Bool} (ht : P.underlying T = some (.int k')) (d : Nat) : (Instr.checkKey e (d + 1) T (.int k a)).run P w = .ok () w := by
 simp [Instr.checkKey, run_underlying ht]
theorem keyU {P : Program} {T : TypeId} (ht : P.underlying T = some (.int .u64)) : KeyLaw P T encU where
 desc := ⟨_, ht, .inl fun a b => by
  simp only [Instr.sameNow, encU, if_true]
  congr 1
  rw [Bool.eq_iff_iff]; simp; omega⟩
 eq a b w := by
  have h := zep (P := P) (w := w) (k := .u64) (a := (a : Int)) (b := (b : Int)) ht 9999
  refine (show _ = _ from h).trans ?_
  congr 1
  rw [Bool.eq_iff_iff]; simp; omega
 check e a w := zdI ht 9999
 bits a := by
  have : Instr.sameBits 10000 (.int .u64 (a : Int)) (.int .u64 (a : Int)) = (IntKind.u64 == IntKind.u64 && (a : Int) == (a : Int)) := by
   unfold Instr.sameBits; rfl
  simp [encU, this]
set_option linter.unusedSectionVars false
section
variable {κ α : Type} [DecidableEq κ]
theorem zeM : ∀ {l m : List κ}, l.Nodup → (∀ x ∈ l, x ∈ m) → l.length ≤ m.length
 | [], _, _, _ => Nat.zero_le _
 | a :: l, m, hn, hs => by
  rw [List.nodup_cons] at hn
  have ha := hs a (List.mem_cons_self ..)
  have h := zeM (m := m.erase a) hn.2 fun x hx => by
   have hne : x ≠ a := fun e => hn.1 (e ▸ hx)
   exact (List.mem_erase_of_ne hne).2 (hs x (List.mem_cons_of_mem _ hx))
  have h2 := List.length_erase_of_mem ha
  have h3 := List.length_pos_of_mem ha
  simp only [List.length_cons]; omega
theorem zql {ms : List (κ × α)} {p : κ × α} (h : p ∈ ms) : p.1 ∈ zas ms := List.mem_map_of_mem h
theorem zqm (ms : List (κ × α)) : (zas ms).length = ms.length := by simp [zas]
theorem zci {ms : List (κ × α)} {done : List κ} {k : κ} {a : α} (h1 : done.Nodup) (h2 : ∀ x ∈ done, x ∈ zas ms) (hm : (k, a) ∈ ms) (hk : k ∉ done) :
  ((done ++ [k]).Nodup ∧ ∀ x ∈ done ++ [k], x ∈ zas ms) ∧ ms.length - (done ++ [k]).length < ms.length - done.length := by
 have hn : (done ++ [k]).Nodup := List.nodup_append.2 ⟨h1, by simp, fun x hx y hy e => by simp at hy; subst hy e; exact hk hx⟩
 have hs : ∀ x ∈ done ++ [k], x ∈ zas ms := fun x hx => by
  rcases List.mem_append.1 hx with hx | hx
  ·exact h2 x hx
  ·simp at hx; subst hx; exact zql hm
 have := zeM hn hs
 rw [zqm] at this
 simp only [List.length_append, List.length_cons, List.length_nil] at *
 exact ⟨⟨hn, hs⟩, by omega⟩
theorem zgj (k : κ) : ∀ {ms : List (κ × α)}, (zas ms).Nodup → delR k ms = ms.filter (fun p => decide (p.1 ≠ k))
 | [], _ => rfl
 | p :: ms, h => by
  simp only [zas, List.map_cons, List.nodup_cons] at h
  have ih := zgj k (ms := ms) h.2
  simp only [delR]
  by_cases hk : k = p.1
  ·subst hk
   rw [if_pos rfl]
   simp only [ne_eq, not_true_eq_false, decide_false, Bool.false_eq_true, not_false_eq_true, List.filter_cons_of_neg]
   rw [List.filter_eq_self.2]
   intro q hq
   simp only [decide_eq_true_eq]
   exact fun e => h.1 (e ▸ List.mem_map_of_mem hq)
  ·rw [if_neg hk]
   have hk' : p.1 ≠ k := fun e => hk e.symm
   simp [hk', ih]
theorem zks {ms : List (κ × α)} (f : κ × α → Bool) (h : (zas ms).Nodup) : (zas (ms.filter f)).Nodup :=
 h.sublist (List.Sublist.map _ (List.filter_sublist ..))
end
def cur (q : Nat) (ms : Ms) (done : List Nat) : Ms := ms.filter fun p => !(decide (p.1 ∈ done) && decide (q ≤ p.1))
theorem TC.mapNodup {C : Ctx} {Q : EQ} {env : Env} {L : List Assn} {c : Code} {κ α : Type} [DecidableEq κ] {enc : κ → Value} {encv : α → Value} {ms : List (κ × α)} {b : Nat} (hb : Has C L (MapA b enc encv ms)) (h : (zas ms).Nodup → TC C c Q env L) : TC C c Q env L :=
 fun a w ha hw => by
  obtain ⟨es, clock, _, _, _, _, hn⟩ := hb w hw
  exact h hn a w ha hw
section
variable {C : Ctx} {Q : EQ} {env : Env} {ops : Array Oper} {l : List Oper} {κ α : Type} [DecidableEq κ] {enc : κ → Value} {encv : α → Value} {ms : List (κ × α)} {b it : Nat} {done : List κ}
theorem TL.endI {L1 L2 : List Assn} (h : TL C ops Q l env (L1 ++ MapA b enc encv ms :: L2)) : TL C ops Q l env (L1 ++ MapI b it enc encv ms done :: L2) := fun a w ha hw => h a w ha hw.endI
theorem TL.endI0 {R : List Assn} (h : TL C ops Q l env (MapA b enc encv ms :: R)) : TL C ops Q l env (MapI b it enc encv ms done :: R) := TL.endI (L1 := []) h
end
theorem Qt.makeFuncL {C : Ctx} {env : Env} {L : List Assn} {dst : Option Tmp} {ty : TypeId} {pos : String} {after : Array Edge} {guard : Option (Nat × Bool)} {fn : Fn} {first captured : Array Operand} {fs cs : List Value} (h1 : first.toList.map env.ev = fs) (h2 : captured.toList.map env.ev = cs) :
  Qt C L ⟨dst, .makeFunc fn first captured, ty, pos, after, guard⟩ env (.func fn fs.toArray cs.toArray) := Qt.makeFunc (by rw [← h1]; apply Array.ext'; simp) (by rw [← h2]; apply Array.ext'; simp)
theorem zlH (o : Nat) (ho : o = 0) : ∀ (l p s : List Value), l.length = s.length → (l.zipIdx p.length).foldl (fun (cs : Array Value) (q : Value × Nat) => cs.setIfInBounds (o + q.2) q.1) (p ++ s).toArray = (p ++ l).toArray
 | [], p, s, h => by
  have : s = [] := List.eq_nil_of_length_eq_zero (by simpa using h.symm)
  subst this; rfl
 | c :: l, p, s, h => by
  subst ho
  match s, h with
  | d :: s, h =>
   have hs : (p ++ d :: s).toArray.setIfInBounds (0 + p.length) c = ((p ++ [c]) ++ s).toArray := by
    simp
   rw [List.zipIdx_cons, List.foldl_cons]
   dsimp only
   rw [hs]
   have ih := zlH 0 rfl l (p ++ [c]) s (by simpa using h)
   rw [List.length_append] at ih
   simp only [List.length_cons, List.length_nil] at ih
   refine (show _ = _ from ih).trans ?_
   simp
def zs7 (P : Program) (e : TypeId) (sz bytes : Nat) : Bool := match P.info? e with
 | some i => match i.zero with
  | some z => i.size == sz && (i.bytes == bytes && (z.cells.size == sz && decide (0 < sz)))
  | none => false
 | none => false
theorem zcv {P : Program} {e : TypeId} {sz bytes : Nat} (h : zs7 P e sz bytes = true) : zcn P e sz bytes := by
 unfold zs7 at h
 cases hi : P.info? e with
 | none => rw [hi] at h; cases h
 | some i =>
  rw [hi] at h
  dsimp only at h
  cases hz : i.zero with
  | none => rw [hz] at h; cases h
  | some z =>
   rw [hz] at h
   simp only [Bool.and_eq_true, beq_iff_eq, decide_eq_true_eq] at h
   exact ⟨i, z, hi, hz, h.1, h.2.1, h.2.2.1, h.2.2.2⟩
theorem ztJ {zs : Array Value} {v : Value} {sz : Nat} (h : zs.size = sz) (hv : v.cells.size = sz) : Instr.fill (fun i => some (i * sz, sz)) zs [(0, v)] = some v.cells := by
 have hf : (v.cells.zipIdx.foldl (fun cs (c, j) => cs.setIfInBounds (0 * sz + j) c) zs) = v.cells := by
  have h1 := zlH (0 * sz) (Nat.zero_mul sz) v.cells.toList [] zs.toList (by simp [h, hv])
  simp only [List.nil_append, List.length_nil, Array.toArray_toList] at h1
  rw [← Array.foldl_toList, Array.toList_zipIdx]
  exact h1
 simp only [Instr.fill, hf]
 rw [if_neg (by simp [h, hv])]
theorem OpV.slice1 {C : Ctx} {env : Env} {L : List Assn} {dst : Option Tmp} {ty : TypeId} {pos : String} {after : Array Edge} {guard : Option (Nat × Bool)} {x : Operand} {T e : TypeId} {v : Value} {sz bytes : Nat} {K : Value → List Assn → Prop} (ht : C.P.underlying T = some (.slice e)) (he : zcn C.P e sz bytes) (hle : sz ≤ 16777216) (hx : env.ev x = v) (hl : (vl v).length = sz)
  (h : ∀ b, K (.slice (some ⟨b, 0, none⟩) 1 1) (Blk b e (vl v) :: L)) : OpV C ⟨dst, .buildSlice T 1 #[(0, x)], ty, pos, after, guard⟩ env L K := by
 obtain ⟨i, z, h1, h2, h3, h4, h5, h6⟩ := he
 have hc : v.cells = (vl v).toArray := by rw [← zcu]
 refine OpV.buildSliceR (sz := sz) (cs := vl v) ht (by rw [h1]; exact congrArg some h3) ow ⟨z, by simp [zeJ, h1, h2], ?_⟩ h
 have : ((#[(0, x)] : Array (Nat × Operand)).map fun (i, x) => (i, env.ev x)).toList = [(0, v)] := by simp [hx]
 rw [this, ← hc]
 exact ztJ (by simp) (by rw [hc]; simpa using hl)
theorem zhs {l : List UInt8} {i : Nat} (h : i < l.length) : (zad l).toArray[i]? = some (.int .u8 ((l.getD i 0).toNat : Int)) := by
 simp [zad, h, List.getD]
theorem zc0 {P : Program} {w : World} (d : Nat) {e : TypeId} (he : P.underlying e = some (.int .u8)) (xs ys : List UInt8) : ∀ is : List Nat, (∀ i ∈ is, i < xs.length ∧ i < ys.length) →
  (Op.eqItems (d + 1) e 1 (zad xs).toArray (zad ys).toArray is).run P w = .ok (is.all fun i => decide (xs.getD i 0 = ys.getD i 0)) w
 | [], _ => by simp [Op.eqItems]
 | i :: is, h => by
  have hp : P.plainKey e = true := by simp [Program.plainKey, he]
  have hi := h i (List.mem_cons_self ..)
  have p1 := run_part_plain (P := P) w hp (xs := (zad xs).toArray) (off := i * 1) (by rw [Nat.mul_one]; exact zhs hi.1)
  have p2 := run_part_plain (P := P) w hp (xs := (zad ys).toArray) (off := i * 1) (by rw [Nat.mul_one]; exact zhs hi.2)
  have p3 := zep (P := P) (w := w) (k := .u8) (a := ((xs.getD i 0).toNat : Int)) (b := ((ys.getD i 0).toNat : Int)) he d
  have ih := zc0 (w := w) d he xs ys is fun j hj => h j (List.mem_cons_of_mem _ hj)
  simp only [Op.eqItems, Sem.run_bind, p1, p2, p3, Result.andThen_ok, List.all_cons]
  by_cases hx : xs.getD i 0 = ys.getD i 0
  ·simp only [hx, decide_true, Bool.true_and]
   simpa using ih
  ·have hne : ¬ ((xs.getD i 0).toNat : Int) = ((ys.getD i 0).toNat : Int) := fun e => hx (UInt8.toNat_inj.1 ow)
   have hd : decide (xs.getD i 0 = ys.getD i 0) = false := decide_eq_false hx
   have hb : (((xs.getD i 0).toNat : Int) == ((ys.getD i 0).toNat : Int)) = false := by rw [beq_eq_false_iff_ne]; exact hne
   rw [hd, hb]
   rfl
theorem zqn {xs ys : List UInt8} (h1 : xs.length = 32) (h2 : ys.length = 32) : ((List.range 32).all fun i => decide (xs.getD i 0 = ys.getD i 0)) = decide (xs = ys) := by
 rw [Bool.eq_iff_iff]
 simp only [List.all_eq_true, List.mem_range, decide_eq_true_eq]
 constructor
 ·intro h
  refine List.ext_getElem ow fun i h3 h4 => ?_
  have := h i ow
  simpa [List.getD, h3, h4] using this
 ·rintro rfl i _; rfl
theorem zht {P : Program} {w : World} {T e : TypeId} {a b : H32} (ht : P.underlying T = some (.array 32 e)) (he : P.underlying e = some (.int .u8)) (hs : (P.info? e).map (·.size) = some 1) (d : Nat) :
  (Op.equalIn (d + 2) T (hv a) (hv b)).run P w = .ok (decide (a = b)) w := by
 obtain ⟨i, hi, h1⟩ := Option.map_eq_some_iff.1 hs
 have hc : P.cellsOf e = 1 := by simp [Program.cellsOf, hi, h1]
 have := zc0 (P := P) (w := w) d he a.1 b.1 (List.range 32) (fun i h => by rw [a.2, b.2]; simpa using h)
 rw [show hv a = .agg (zad a.1).toArray from rfl, show hv b = .agg (zad b.1).toArray from rfl, run_equalIn_array w (d + 1) _ _ ht hi, hc, this, zqn a.2 b.2]
 congr 1
 rw [Bool.eq_iff_iff]; simp only [decide_eq_true_eq]
 exact ⟨Subtype.ext, fun h => h ▸ rfl⟩
section
variable {C : Ctx} {env : Env} {L : List Assn} {dst : Option Tmp} {ty ty2 : TypeId} {pos : String} {after : Array Edge} {guard : Option (Nat × Bool)} {x y : Operand} {T e : TypeId} {a b : H32}
theorem Qt.eqH (hm : C.P.eqGuardType C.P.depth T = false) (ht : C.P.underlying T = some (.array 32 e)) (he : C.P.underlying e = some (.int .u8)) (hs : (C.P.info? e).map (·.size) = some 1) (hx : env.ev x = hv a) (hy : env.ev y = hv b) : Qt C L ⟨dst, .binOp .eql T x y ty2, ty, pos, after, guard⟩ env (.bool (decide (a = b))) := fun w _ => by
 have h := zht (P := C.P) (w := w) (a := a) (b := b) ht he hs 9998
 have h2 : (binOp .eql T (hv a) (hv b)).run C.P w = .ok (.bool (decide (a = b))) w := by
  rw [show hv a = .agg (zad a.1).toArray from rfl, show hv b = .agg (zad b.1).toArray from rfl] at h ⊢
  rw [run_eql_struct, h]; rfl
 have h3 : (eqGuard .eql T x y (hv a) (hv b)).run C.P w = .ok () w := run_eqGuard_agg w .eql T x y _ _ hm
 simp [execOp, hx, hy, h2, h3]
theorem Qt.neH (hm : C.P.eqGuardType C.P.depth T = false) (ht : C.P.underlying T = some (.array 32 e)) (he : C.P.underlying e = some (.int .u8)) (hs : (C.P.info? e).map (·.size) = some 1) (hx : env.ev x = hv a) (hy : env.ev y = hv b) : Qt C L ⟨dst, .binOp .neq T x y ty2, ty, pos, after, guard⟩ env (.bool (decide (a ≠ b))) := fun w _ => by
 have h := zht (P := C.P) (w := w) (a := a) (b := b) ht he hs 9998
 have h2 : (binOp .neq T (hv a) (hv b)).run C.P w = .ok (.bool (decide (a ≠ b))) w := by
  rw [show hv a = .agg (zad a.1).toArray from rfl, show hv b = .agg (zad b.1).toArray from rfl] at h ⊢
  rw [run_neq_struct, h]; simp
 have h3 : (eqGuard .neq T x y (hv a) (hv b)).run C.P w = .ok () w := run_eqGuard_agg w .neq T x y _ _ hm
 simp [execOp, hx, hy, h2, h3]
end
theorem Ro.blk {w0 : World} {M : List Nat} {b : Nat} {T : TypeId} {cs : List Value} (h : Ro w0 M (Blk b T cs)) : Ro w0 M (SlA (some ⟨b, 0, none⟩) cs) :=
 ⟨fun j u hj => ⟨_, rfl, by rw [zbh, zb9 h.1]; simpa using hj⟩, fun k hk => by
  rw [zcC] at hk
  obtain ⟨a, ha, rfl, _⟩ := zbx hk
  injection ha with ha
  subst ha
  exact h.2 _ (by simp [Blk.fp])⟩
end Go.E
