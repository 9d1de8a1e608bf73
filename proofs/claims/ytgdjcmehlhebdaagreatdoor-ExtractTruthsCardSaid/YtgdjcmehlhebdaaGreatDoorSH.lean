/- Plain words and laws for the volume's statements: lists of indices, errors as numbers. -/
import Derived.Test.YtgdjcmehlhebdaaGreatDoorE2
import Derived.ChangeKeysEq
import Derived.Laws.StructEq
import Derived.Laws.Append
set_option maxHeartbeats 25600000
set_option linter.all false
namespace Go.E
def w6 (xs : List Nat) : List Value := xs.map fun (x : Nat) => .int .u64 (x : Int)
theorem FE {xs : List Nat} {i k : Nat} (h : i < xs.length) (hk : k = i) : (w6 xs)[k]? = some (.int .u64 ((xs.getD i 0 : Nat) : Int)) := by
 subst hk; simp [w6, List.getElem?_eq_getElem h, List.getD]
theorem D5 (xs : List Nat) : (w6 xs).length = xs.length := by simp [w6]
theorem zgg (xs : List Nat) (k : Nat) : (w6 xs).drop k = w6 (xs.drop k) := by simp [w6]
def HX (T : Nat) (k : Nat) : Value := if k = 0 then .nilIface else .iface T (.int .i64 (k : Int))
theorem zeZ (T : Nat) : HX T 0 = .nilIface := rfl
theorem DJ {T k : Nat} (h : k ≠ 0) : HX T k = .iface T (.int .i64 (k : Int)) := if_neg h
def zi7 (xs : List Nat) : Prop := ∀ i, i + 1 < xs.length → xs.getD i 0 < xs.getD (i + 1) 0
open Classical in
noncomputable def zj4 (xs : List Nat) (n : Nat) : Nat :=
 if 256 < xs.length then 3 else if xs.length = 0 then 2
 else if zi7 xs then (if n ≤ xs.getD (xs.length - 1) 0 then 1 else 0) else 2
abbrev Ms := List (Nat × i6)
def Q9 (x : Nat) : Value := .int .u64 (x : Int)
theorem DI {a b : Nat} (h : Q9 a = Q9 b) : a = b := by
 injection h with _ h; omega
def cut (ms : Ms) (xs : List Nat) : Ms := xs.foldl (fun m x => Y9 x m) ms
theorem FS {l : List i6} {i k : Nat} (h : i < l.length) (hk : k = i * 32) : ∀ j v, (L8 (l.getD i e7))[j]? = some v → (m9 l)[k + j]? = some v := by
 subst hk
 exact GP l i _ (by simp [List.getD, h])
theorem kE {P : Program} {w : World} {T : TypeId} {k k' : IntKind} {a b : Int} (ht : P.underlying T = some (.int k')) (d : Nat) : (Op.equalIn (d + 1) T (.int k a) (.int k b)).run P w = .ok (a == b) w := by
 simp [Op.equalIn, run_underlying ht]
theorem iW {P : Program} {w : World} {T : TypeId} {k k' : IntKind} {a : Int} {e : Bool} (ht : P.underlying T = some (.int k')) (d : Nat) : (Instr.checkKey e (d + 1) T (.int k a)).run P w = .ok () w := by
 simp [Instr.checkKey, run_underlying ht]
theorem keyU {P : Program} {T : TypeId} (ht : P.underlying T = some (.int .u64)) : KeyLaw P T Q9 where
 desc := ⟨_, ht, .inl fun a b => by
  simp only [Instr.sameNow, Q9, if_true]
  congr 1
  rw [Bool.eq_iff_iff]; simp; omega⟩
 eq a b w := by
  have h := kE (P := P) (w := w) (k := .u64) (a := (a : Int)) (b := (b : Int)) ht 9999
  refine (show _ = _ from h).trans ?_
  congr 1
  rw [Bool.eq_iff_iff]; simp; omega
 check e a w := iW ht 9999
 bits a := by
  have : Instr.sameBits 10000 (.int .u64 (a : Int)) (.int .u64 (a : Int)) = (IntKind.u64 == IntKind.u64 && (a : Int) == (a : Int)) := by
   unfold Instr.sameBits; rfl
  simp [Q9, this]
set_option linter.unusedSectionVars false
section
variable {κ α : Type} [DecidableEq κ]
theorem mI : ∀ {l m : List κ}, l.Nodup → (∀ x ∈ l, x ∈ m) → l.length ≤ m.length
 | [], _, _, _ => Nat.zero_le _
 | a :: l, m, hn, hs => by
  rw [List.nodup_cons] at hn
  have ha := hs a (List.mem_cons_self ..)
  have h := mI (m := m.erase a) hn.2 fun x hx => by
   have hne : x ≠ a := fun e => hn.1 (e ▸ hx)
   exact (List.mem_erase_of_ne hne).2 (hs x (List.mem_cons_of_mem _ hx))
  have h2 := List.length_erase_of_mem ha
  have h3 := List.length_pos_of_mem ha
  simp only [List.length_cons]; omega
theorem zhb {ms : List (κ × α)} {p : κ × α} (h : p ∈ ms) : p.1 ∈ o9 ms := List.mem_map_of_mem h
theorem zg6 (ms : List (κ × α)) : (o9 ms).length = ms.length := by simp [o9]
theorem bB {ms : List (κ × α)} {done : List κ} {k : κ} {a : α} (h1 : done.Nodup) (h2 : ∀ x ∈ done, x ∈ o9 ms) (hm : (k, a) ∈ ms) (hk : k ∉ done) :
  ((done ++ [k]).Nodup ∧ ∀ x ∈ done ++ [k], x ∈ o9 ms) ∧ ms.length - (done ++ [k]).length < ms.length - done.length := by
 have hn : (done ++ [k]).Nodup := List.nodup_append.2 ⟨h1, by simp, fun x hx y hy e => by simp at hy; subst hy e; exact hk hx⟩
 have hs : ∀ x ∈ done ++ [k], x ∈ o9 ms := fun x hx => by
  rcases List.mem_append.1 hx with hx | hx
  ·exact h2 x hx
  ·simp at hx; subst hx; exact zhb hm
 have := mI hn hs
 rw [zg6] at this
 simp only [List.length_append, List.length_cons, List.length_nil] at *
 exact ⟨⟨hn, hs⟩, by omega⟩
theorem rZ (k : κ) : ∀ {ms : List (κ × α)}, (o9 ms).Nodup → Y9 k ms = ms.filter (fun p => decide (p.1 ≠ k))
 | [], _ => rfl
 | p :: ms, h => by
  simp only [o9, List.map_cons, List.nodup_cons] at h
  have ih := rZ k (ms := ms) h.2
  simp only [Y9]
  by_cases hk : k = p.1
  ·subst hk
   rw [if_pos rfl]
   simp only [ne_eq, not_true_eq_false, decide_false, Bool.false_eq_true, not_false_eq_true, List.filter_cons_of_neg]
   rw [List.filter_eq_self.2]
   intro q hq
   simp only [decide_eq_true_eq]
   exact fun e => h.1 (e ▸ List.mem_map_of_mem hq)
  ·rw [if_neg hk]
   have hk' : p.1 ≠ k := fun e => hk e.symm
   simp [hk', ih]
theorem zcz {ms : List (κ × α)} (f : κ × α → Bool) (h : (o9 ms).Nodup) : (o9 (ms.filter f)).Nodup :=
 h.sublist (List.Sublist.map _ (List.filter_sublist ..))
end
def keep (q : Nat) (ms : Ms) : Ms := ms.filter fun p => decide (p.1 < q)
def cur (q : Nat) (ms : Ms) (done : List Nat) : Ms := ms.filter fun p => !(decide (p.1 ∈ done) && decide (q ≤ p.1))
theorem zb5 {C : Ctx} {Q : EQ} {env : Env} {L : List Assn} {c : Code} {κ α : Type} [DecidableEq κ] {enc : κ → Value} {encv : α → Value} {ms : List (κ × α)} {b : Nat} (hb : Has C L (u6 b enc encv ms)) (h : (o9 ms).Nodup → TC C c Q env L) : TC C c Q env L :=
 fun a w ha hw => by
  obtain ⟨es, ck, _, _, _, _, hn⟩ := hb w hw
  exact h hn a w ha hw
section
variable {C : Ctx} {Q : EQ} {env : Env} {ops : Array Oper} {l : List Oper} {κ α : Type} [DecidableEq κ] {enc : κ → Value} {encv : α → Value} {ms : List (κ × α)} {b it : Nat} {done : List κ}
theorem zh7 {L1 L2 : List Assn} (h : TL C ops Q l env (L1 ++ u6 b enc encv ms :: L2)) : TL C ops Q l env (L1 ++ aJ b it enc encv ms done :: L2) := fun a w ha hw => h a w ha hw.endI
theorem zgz {R : List Assn} (h : TL C ops Q l env (u6 b enc encv ms :: R)) : TL C ops Q l env (aJ b it enc encv ms done :: R) := zh7 (L1 := []) h
end
theorem E9 {C : Ctx} {env : Env} {L : List Assn} {dst : Option Tmp} {ty : TypeId} {po : String} {af : Array Edge} {gj : Option (Nat × Bool)} {fn : Fn} {first captured : Array Operand} {fs cs : List Value} (h1 : first.toList.map env.ev = fs) (h2 : captured.toList.map env.ev = cs) :
  Qt C L ⟨dst, .makeFunc fn first captured, ty, po, af, gj⟩ env (.func fn fs.toArray cs.toArray) := zb0 (by rw [← h1]; apply Array.ext'; simp) (by rw [← h2]; apply Array.ext'; simp)
theorem DL (o : Nat) (ho : o = 0) : ∀ (l p s : List Value), l.length = s.length → (l.zipIdx p.length).foldl (fun (cs : Array Value) (q : Value × Nat) => cs.setIfInBounds (o + q.2) q.1) (p ++ s).toArray = (p ++ l).toArray
 | [], p, s, h => by
  have : s = [] := List.eq_nil_of_length_eq_zero (by simpa using h.symm)
  subst this; rfl
 | c :: l, p, s, h => by
  subst ho
  match s, h with
  | d :: s, h =>
   have hs : (p ++ d :: s).toArray.setIfInBounds (0 + p.length) c = ((p ++ [c]) ++ s).toArray := by
    simp
   rw [List.zipIdx_cons, List.foldl_cons]
   dsimp only
   rw [hs]
   have ih := DL 0 rfl l (p ++ [c]) s (by simpa using h)
   rw [List.length_append] at ih
   simp only [List.length_cons, List.length_nil] at ih
   refine (show _ = _ from ih).trans ?_
   simp
def KH (P : Program) (e : TypeId) (sz bytes : Nat) : Bool := match P.info? e with
 | some i => match i.zero with
  | some z => i.size == sz && (i.bytes == bytes && (z.cells.size == sz && decide (0 < sz)))
  | none => false
 | none => false
theorem S4 {P : Program} {e : TypeId} {sz bytes : Nat} (h : KH P e sz bytes = true) : S3 P e sz bytes := by
 unfold KH at h
 cases hi : P.info? e with
 | none => rw [hi] at h; cases h
 | some i =>
  rw [hi] at h
  dsimp only at h
  cases hz : i.zero with
  | none => rw [hz] at h; cases h
  | some z =>
   rw [hz] at h
   simp only [Bool.and_eq_true, beq_iff_eq, decide_eq_true_eq] at h
   exact ⟨i, z, hi, hz, h.1, h.2.1, h.2.2.1, h.2.2.2⟩
theorem zjV {zs : Array Value} {v : Value} {sz : Nat} (h : zs.size = sz) (hv : v.cells.size = sz) : Instr.fill (fun i => some (i * sz, sz)) zs [(0, v)] = some v.cells := by
 have hf : (v.cells.zipIdx.foldl (fun cs (c, j) => cs.setIfInBounds (0 * sz + j) c) zs) = v.cells := by
  have h1 := DL (0 * sz) (Nat.zero_mul sz) v.cells.toList [] zs.toList (by simp [h, hv])
  simp only [List.nil_append, List.length_nil, Array.toArray_toList] at h1
  rw [← Array.foldl_toList, Array.toList_zipIdx]
  exact h1
 simp only [Instr.fill, hf]
 rw [if_neg (by simp [h, hv])]
theorem m5 {C : Ctx} {env : Env} {L : List Assn} {dst : Option Tmp} {ty : TypeId} {po : String} {af : Array Edge} {gj : Option (Nat × Bool)} {x : Operand} {T e : TypeId} {v : Value} {sz bytes : Nat} {K : Value → List Assn → Prop} (ht : C.P.underlying T = some (.slice e)) (he : S3 C.P e sz bytes) (hle : sz ≤ 16777216) (hx : env.ev x = v) (hl : (vl v).length = sz)
  (h : ∀ b, K (.slice (some ⟨b, 0, none⟩) 1 1) (Blk b e (vl v) :: L)) : OpV C ⟨dst, .buildSlice T 1 #[(0, x)], ty, po, af, gj⟩ env L K := by
 obtain ⟨i, z, h1, h2, h3, h4, h5, h6⟩ := he
 have hc : v.cells = (vl v).toArray := by rw [← bY]
 refine aU (sz := sz) (cs := vl v) ht (by rw [h1]; exact congrArg some h3) ow ⟨z, by simp [gI, h1, h2], ?_⟩ h
 have : ((#[(0, x)] : Array (Nat × Operand)).map fun (i, x) => (i, env.ev x)).toList = [(0, v)] := by simp [hx]
 rw [this, ← hc]
 exact zjV (by simp) (by rw [hc]; simpa using hl)
theorem uV {l : List UInt8} {i : Nat} (h : i < l.length) : (e9 l).toArray[i]? = some (.int .u8 ((l.getD i 0).toNat : Int)) := by
 simp [e9, h, List.getD]
theorem fA {P : Program} {w : World} (d : Nat) {e : TypeId} (he : P.underlying e = some (.int .u8)) (xs ys : List UInt8) : ∀ is : List Nat, (∀ i ∈ is, i < xs.length ∧ i < ys.length) →
  (Op.eqItems (d + 1) e 1 (e9 xs).toArray (e9 ys).toArray is).run P w = .ok (is.all fun i => decide (xs.getD i 0 = ys.getD i 0)) w
 | [], _ => by simp [Op.eqItems]
 | i :: is, h => by
  have hp : P.plainKey e = true := by simp [Program.plainKey, he]
  have hi := h i (List.mem_cons_self ..)
  have p1 := run_part_plain (P := P) w hp (xs := (e9 xs).toArray) (off := i * 1) (by rw [Nat.mul_one]; exact uV hi.1)
  have p2 := run_part_plain (P := P) w hp (xs := (e9 ys).toArray) (off := i * 1) (by rw [Nat.mul_one]; exact uV hi.2)
  have p3 := kE (P := P) (w := w) (k := .u8) (a := ((xs.getD i 0).toNat : Int)) (b := ((ys.getD i 0).toNat : Int)) he d
  have ih := fA (w := w) d he xs ys is fun j hj => h j (List.mem_cons_of_mem _ hj)
  simp only [Op.eqItems, Sem.run_bind, p1, p2, p3, Result.andThen_ok, List.all_cons]
  by_cases hx : xs.getD i 0 = ys.getD i 0
  ·simp only [hx, decide_true, Bool.true_and]
   simpa using ih
  ·have hne : ¬ ((xs.getD i 0).toNat : Int) = ((ys.getD i 0).toNat : Int) := fun e => hx (UInt8.toNat_inj.1 ow)
   have hd : decide (xs.getD i 0 = ys.getD i 0) = false := decide_eq_false hx
   have hb : (((xs.getD i 0).toNat : Int) == ((ys.getD i 0).toNat : Int)) = false := by rw [beq_eq_false_iff_ne]; exact hne
   rw [hd, hb]
   rfl
theorem zgE {xs ys : List UInt8} (h1 : xs.length = 32) (h2 : ys.length = 32) : ((List.range 32).all fun i => decide (xs.getD i 0 = ys.getD i 0)) = decide (xs = ys) := by
 rw [Bool.eq_iff_iff]
 simp only [List.all_eq_true, List.mem_range, decide_eq_true_eq]
 constructor
 ·intro h
  refine List.ext_getElem ow fun i h3 h4 => ?_
  have := h i ow
  simpa [List.getD, h3, h4] using this
 ·rintro rfl i _; rfl
theorem vH {P : Program} {w : World} {T e : TypeId} {a b : i6} (ht : P.underlying T = some (.array 32 e)) (he : P.underlying e = some (.int .u8)) (hs : (P.info? e).map (·.size) = some 1) (d : Nat) :
  (Op.equalIn (d + 2) T (hv a) (hv b)).run P w = .ok (decide (a = b)) w := by
 obtain ⟨i, hi, h1⟩ := Option.map_eq_some_iff.1 hs
 have hc : P.cellsOf e = 1 := by simp [Program.cellsOf, hi, h1]
 have := fA (P := P) (w := w) d he a.1 b.1 (List.range 32) (fun i h => by rw [a.2, b.2]; simpa using h)
 rw [show hv a = .agg (e9 a.1).toArray from rfl, show hv b = .agg (e9 b.1).toArray from rfl, run_equalIn_array w (d + 1) _ _ ht hi, hc, this, zgE a.2 b.2]
 congr 1
 rw [Bool.eq_iff_iff]; simp only [decide_eq_true_eq]
 exact ⟨Subtype.ext, fun h => h ▸ rfl⟩
section
variable {C : Ctx} {env : Env} {L : List Assn} {dst : Option Tmp} {ty ty2 : TypeId} {po : String} {af : Array Edge} {gj : Option (Nat × Bool)} {x y : Operand} {T e : TypeId} {a b : i6}
theorem FM (hm : C.P.eqGuardType C.P.depth T = false) (ht : C.P.underlying T = some (.array 32 e)) (he : C.P.underlying e = some (.int .u8)) (hs : (C.P.info? e).map (·.size) = some 1) (hx : env.ev x = hv a) (hy : env.ev y = hv b) : Qt C L ⟨dst, .binOp .eql T x y ty2, ty, po, af, gj⟩ env (.bool (decide (a = b))) := fun w _ => by
 have h := vH (P := C.P) (w := w) (a := a) (b := b) ht he hs 9998
 have h2 : (binOp .eql T (hv a) (hv b)).run C.P w = .ok (.bool (decide (a = b))) w := by
  rw [show hv a = .agg (e9 a.1).toArray from rfl, show hv b = .agg (e9 b.1).toArray from rfl] at h ⊢
  rw [run_eql_struct, h]; rfl
 have h3 : (eqGuard .eql T x y (hv a) (hv b)).run C.P w = .ok () w := run_eqGuard_agg w .eql T x y _ _ hm
 simp [execOp, hx, hy, h2, h3]
theorem zi4 (hm : C.P.eqGuardType C.P.depth T = false) (ht : C.P.underlying T = some (.array 32 e)) (he : C.P.underlying e = some (.int .u8)) (hs : (C.P.info? e).map (·.size) = some 1) (hx : env.ev x = hv a) (hy : env.ev y = hv b) : Qt C L ⟨dst, .binOp .neq T x y ty2, ty, po, af, gj⟩ env (.bool (decide (a ≠ b))) := fun w _ => by
 have h := vH (P := C.P) (w := w) (a := a) (b := b) ht he hs 9998
 have h2 : (binOp .neq T (hv a) (hv b)).run C.P w = .ok (.bool (decide (a ≠ b))) w := by
  rw [show hv a = .agg (e9 a.1).toArray from rfl, show hv b = .agg (e9 b.1).toArray from rfl] at h ⊢
  rw [run_neq_struct, h]; simp
 have h3 : (eqGuard .neq T x y (hv a) (hv b)).run C.P w = .ok () w := run_eqGuard_agg w .neq T x y _ _ hm
 simp [execOp, hx, hy, h2, h3]
end
theorem Ro.blk {w0 : World} {M : List Nat} {b : Nat} {T : TypeId} {cs : List Value} (h : Ro w0 M (Blk b T cs)) : Ro w0 M (SlA (some ⟨b, 0, none⟩) cs) :=
 ⟨fun j u hj => ⟨_, rfl, by rw [Q4, bA h.1]; simpa using hj⟩, fun k hk => by
  rw [bN] at hk
  obtain ⟨a, ha, rfl, _⟩ := U9 hk
  injection ha with ha
  subst ha
  exact h.2 _ (by simp [Blk.fp])⟩
variable {C : Ctx} {env : Env} {L : List Assn}
variable {dst : Option Tmp} {ty : TypeId} {po : String} {af : Array Edge} {gj : Option (Nat × Bool)} {x y z : Operand} {v : Value} {T T' e : TypeId} {b o : Nat} {cs cs' : List Value} {K' : Value → List Assn → Prop}
theorem FL {A : y8} {cs : List Value} {T : TypeId} {vs : List Value} (h : Has C L (SlA A cs)) (hT : kU C.P T = true) (hs : (C.P.info? T).map (·.size) = some vs.length) (hl : 0 < vs.length) (hv : ∀ (j : Nat) (v : Value), vs[j]? = some v → cs[j]? = some v) :
  Ld C L A T (.agg vs.toArray) := by
 have h1 := H4 (k := 0) h hT hs hl (by simpa using hv)
 have h0 : A.map (fun a => a.add 0) = A := by cases A <;> simp [Addr.add]
 rwa [h0] at h1
theorem zgt {A : y8} {N n c : Nat} (ht : C.P.underlying T = some (.array N e)) (hx : env.ev x = .slice A n c) (h : N ≤ n) :
  Qt C L ⟨dst, .sliceToArrayPointer T x, ty, po, af, gj⟩ env (.pointer A) := fun w _ => by
 have hn : ¬ n < N := by omega
 simp [execOp, hx, Instr.arrayAt, run_underlying ht, hn]
theorem nU {N i : Nat} {ki : IntKind} {cs : Array Value} (ht : C.P.underlying T = some (.array N e)) (hs : (C.P.info? e).map (·.size) = some 1) (hp : C.P.plainKey e = true) (hx : env.ev x = .agg cs) (hy : env.ev y = .int ki (i : Int)) (hi : i < N) (hv : cs[i]? = some v) :
  Qt C L ⟨dst, .index T x y, ty, po, af, gj⟩ env v := fun w _ => by
 obtain ⟨inf, hin, hsz⟩ := Option.map_eq_some_iff.1 hs
 have h1 := run_part_plain (P := C.P) w hp (xs := cs) (off := i * inf.size) (v := v) (by rw [hsz, Nat.mul_one]; exact hv)
 simp [execOp, hx, hy, Instr.index, asIntOf, run_underlying ht, sizeOf, typeInfo, hin, hi, h1]
theorem dO {i : Nat} {ki : IntKind} {s : ByteArray} {c : UInt8} (ht : C.P.underlying T = some .string) (hx : env.ev x = .string s) (hy : env.ev y = .int ki (i : Int)) (hv : s[i]? = some c) :
  Qt C L ⟨dst, .index T x y, ty, po, af, gj⟩ env (.int .u8 (c.toNat : Int)) := fun w _ => by
 simp [execOp, hx, hy, Instr.index, asIntOf, run_underlying ht, hv]
theorem GC {k : IntKind} {m n : Nat} {tys : Array TypeId} (hx : env.ev x = .int k (m : Int)) (hy : env.ev y = .int k (n : Int)) : Qt C L ⟨dst, .call { callee := .builtin .min, args := #[x, y], argTypes := tys }, ty, po, af, gj⟩ env (.int k ((min m n : Nat) : Int)) := by
 have h := zh0 (C := C) (L := L) (dst := dst) (ty := ty) (po := po) (af := af) (gj := gj) (tys := tys) hx hy
 have e : (if (n : Int) < (m : Int) then (n : Int) else (m : Int)) = ((min m n : Nat) : Int) := by
  split <;> omega
 rwa [e] at h
theorem eH {sz : Nat} (ht : C.P.underlying T = some (.slice e)) (he : ∃ bytes, S3 C.P e sz bytes)
  (h : ∀ b, K' (.slice (some ⟨b, 0, none⟩) 0 0) (OwnA e sz (some ⟨b, 0, none⟩) 0 0 [] :: L)) : OpV C ⟨dst, .buildSlice T 0 #[], ty, po, af, gj⟩ env L K' := by
 obtain ⟨bytes, i, z, h1, h2, h3, h4, h5, h6⟩ := he
 have hb := aU (C := C) (env := env) (L := L) (dst := dst) (ty := ty) (po := po) (af := af) (gj := gj) (parts := #[]) (len := 0) (sz := sz) (cs := []) (e := e) (K := fun v L' => ∃ b, v = .slice (some ⟨b, 0, none⟩) 0 0 ∧ L' = Blk b e [] :: L) ht (by rw [h1]; exact congrArg some h3) ow ⟨z, by simp [gI, h1, h2], by simp [Instr.fill]⟩ (fun b => ⟨b, rfl, rfl⟩)
 intro w hw
 refine (hb w hw).mono ?_
 rintro v w' ⟨L', hs, b, rfl, rfl⟩
 exact ⟨_, hs.shutOwn (c := 0) (n := 0) (by simp) ow (by simp [maxLen]), by simpa using h b⟩
theorem zhY {parts : Array (Nat × Operand)} {len sz : Nat} (ht : C.P.underlying T = some (.slice e)) (hsz : (C.P.info? e).map (·.size) = some sz) (hle : len * sz ≤ 16777216)
  (hz : ∃ z, gI C.P e = some z ∧ Instr.fill (fun i => some (i * sz, sz)) ((Array.range (len * sz)).map fun j => (if len * sz = 0 then #[] else z.cells)[j % (if len * sz = 0 then #[] else z.cells).size]!) (parts.map fun (i, x) => (i, env.ev x)).toList = some cs.toArray)
  (hpos : 0 < sz) (hl : cs.length = len * sz) (h : ∀ b, K' (.slice (some ⟨b, 0, none⟩) len len) (OwnA e sz (some ⟨b, 0, none⟩) len len cs :: L)) : OpV C ⟨dst, .buildSlice T len parts, ty, po, af, gj⟩ env L K' := by
 have hb := aU (C := C) (env := env) (L := L) (dst := dst) (ty := ty) (po := po) (af := af) (gj := gj) (parts := parts) (len := len) (sz := sz) (cs := cs) (e := e) (K := fun v L' => ∃ b, v = .slice (some ⟨b, 0, none⟩) len len ∧ L' = Blk b e cs :: L) ht hsz hle hz (fun b => ⟨b, rfl, rfl⟩)
 have hm : len ≤ maxLen := by
  have : len * 1 ≤ len * sz := Nat.mul_le_mul_left _ hpos
  simp only [maxLen]; omega
 intro w hw
 refine (hb w hw).mono ?_
 rintro v w' ⟨L', hs, b, rfl, rfl⟩
 have := hs.shutOwn (c := len) (n := len) hl (Nat.le_refl _) hm
 rw [← hl, List.take_length] at this
 exact ⟨_, this, h b⟩
theorem yH {L1 L2 : List Assn} {sz N c m d : Nat} {B : y8} {news : List Value} {tS : TypeId} (ht : C.P.underlying T = some (.slice e)) (hsz : (C.P.info? e).map (·.size) = some sz)
  (hx : env.ev x = .slice (some ⟨b, o, none⟩) N c) (hy : env.ev y = .slice B m d) (hs : Has C (L1 ++ Blk b T' cs :: L2) (SlA B news)) (hl : news.length = min m N * sz) (h1 : ∀ u ∈ news, u.oneCell' = true)
  (hb : o + news.length ≤ cs.length) (hc : cs.take o ++ news ++ cs.drop (o + news.length) = cs') (h : K' (.int .i64 ((min m N : Nat) : Int)) (L1 ++ Blk b T' cs' :: L2)) :
  OpV C ⟨dst, .call { callee := .builtin .copy, args := #[x, y], argTypes := #[T, tS] }, ty, po, af, gj⟩ env (L1 ++ Blk b T' cs :: L2) K' := fun w hw => by
 have hblk : (Blk b T' cs).ok w := hw.ok (List.mem_append.2 (.inr (List.mem_cons_self ..)))
 have hsl := hs w hw
 obtain ⟨i, hi, hisz⟩ := Option.map_eq_some_iff.1 hsz
 have hfirst : (Builtin.firstCells sz (min m N) (.slice B m d)).run C.P w = .ok news.toArray w := by
  cases B with
  | none =>
   have : news = [] := by
    cases news with
    | nil => rfl
    | cons u l => obtain ⟨_, h0, _⟩ := hsl 0 u rfl; cases h0
   subst this
   exact run_firstCells_none w sz _ _ _
  | some a =>
   refine run_firstCells_some w sz (min m N) a m d news hl (fun j u hj => ?_)
   obtain ⟨a', h0, h2⟩ := hsl j u hj
   injection h0 with h0
   subst h0; exact h2
 have hst := run_storeCells_at C.P b o T' news 0 cs.toArray w hblk (by simpa using hb) h1
 simp only [Nat.add_zero] at hst
 have hmin : Nat.min m N = min m N := rfl
 have hrun : (execOp env.ev ⟨dst, .call { callee := .builtin .copy, args := #[x, y], argTypes := #[T, tS] }, ty, po, af, gj⟩).run C.P w = .ok (.value (.int .i64 ((min m N : Nat) : Int))) (w.setRow b cs'.toArray) := by
  subst hc
  simp [execOp, resolve, invoke, builtin, hx, hy, Builtin.copy_, run_underlying ht, Builtin.lenOf, sizeOf, typeInfo, hi, hisz, hmin, hfirst, hst, goInt]
 rw [hrun]
 exact ⟨_, hw.setRow, h⟩
theorem q6 {R : List Assn} (hx : env.ev x = .pointer (some ⟨b, o, none⟩)) (hy : env.ev y = v) (hs : (C.P.info? T).map (·.size) = some 1) (hv : vl v = [v]) (h1 : v.oneCell' = true) (hl : o < cs.length) (hc : cs.set o v = cs')
  (h : K' undef (Blk b T' cs' :: R)) : OpV C ⟨dst, .store T x y, ty, po, af, gj⟩ env (Blk b T' cs :: R) K' :=
 E7 (L1 := []) hx hy (by rw [hv]; exact hs) (by rw [hv]; simp [h1]) (by rw [hv]; exact hl) (by rw [hv]; exact (dY hl).trans hc) h
theorem zbS {R : List Assn} (hx : env.ev x = .pointer (some ⟨b, o, none⟩)) (hy : env.ev y = v) (hs : (C.P.info? T).map (·.size) = some (vl v).length) (h1 : (vl v).all (·.oneCell') = true) (hb : o + (vl v).length ≤ cs.length) (hc : cs.take o ++ vl v ++ cs.drop (o + (vl v).length) = cs')
  (h : K' undef (Blk b T' cs' :: R)) : OpV C ⟨dst, .store T x y, ty, po, af, gj⟩ env (Blk b T' cs :: R) K' :=
 E7 (L1 := []) hx hy hs h1 hb hc h
theorem eA {R : List Assn} {sz N c m d : Nat} {B : y8} {news : List Value} {tS : TypeId} (ht : C.P.underlying T = some (.slice e)) (hsz : (C.P.info? e).map (·.size) = some sz)
  (hx : env.ev x = .slice (some ⟨b, o, none⟩) N c) (hy : env.ev y = .slice B m d) (hs : Has C (Blk b T' cs :: R) (SlA B news)) (hl : news.length = min m N * sz) (h1 : ∀ u ∈ news, u.oneCell' = true)
  (hb : o + news.length ≤ cs.length) (hc : cs.take o ++ news ++ cs.drop (o + news.length) = cs') (h : K' (.int .i64 ((min m N : Nat) : Int)) (Blk b T' cs' :: R)) :
  OpV C ⟨dst, .call { callee := .builtin .copy, args := #[x, y], argTypes := #[T, tS] }, ty, po, af, gj⟩ env (Blk b T' cs :: R) K' := yH (L1 := []) ht hsz hx hy hs hl h1 hb hc h
theorem fJ {B0 : Assn} {R : List Assn} (hx : env.ev x = .pointer (some ⟨b, o, none⟩)) (hy : env.ev y = v) (hs : (C.P.info? T).map (·.size) = some 1) (hv : vl v = [v]) (h1 : v.oneCell' = true) (hl : o < cs.length) (hc : cs.set o v = cs')
  (h : K' undef (B0 :: Blk b T' cs' :: R)) : OpV C ⟨dst, .store T x y, ty, po, af, gj⟩ env (B0 :: Blk b T' cs :: R) K' :=
 E7 (L1 := [B0]) hx hy (by rw [hv]; exact hs) (by rw [hv]; simp [h1]) (by rw [hv]; exact hl) (by rw [hv]; exact (dY hl).trans hc) h
theorem zbT {B0 : Assn} {R : List Assn} (hx : env.ev x = .pointer (some ⟨b, o, none⟩)) (hy : env.ev y = v) (hs : (C.P.info? T).map (·.size) = some (vl v).length) (h1 : (vl v).all (·.oneCell') = true) (hb : o + (vl v).length ≤ cs.length) (hc : cs.take o ++ vl v ++ cs.drop (o + (vl v).length) = cs')
  (h : K' undef (B0 :: Blk b T' cs' :: R)) : OpV C ⟨dst, .store T x y, ty, po, af, gj⟩ env (B0 :: Blk b T' cs :: R) K' :=
 E7 (L1 := [B0]) hx hy hs h1 hb hc h
theorem zeq {B0 : Assn} {R : List Assn} {sz N c m d : Nat} {B : y8} {news : List Value} {tS : TypeId} (ht : C.P.underlying T = some (.slice e)) (hsz : (C.P.info? e).map (·.size) = some sz)
  (hx : env.ev x = .slice (some ⟨b, o, none⟩) N c) (hy : env.ev y = .slice B m d) (hs : Has C (B0 :: Blk b T' cs :: R) (SlA B news)) (hl : news.length = min m N * sz) (h1 : ∀ u ∈ news, u.oneCell' = true)
  (hb : o + news.length ≤ cs.length) (hc : cs.take o ++ news ++ cs.drop (o + news.length) = cs') (h : K' (.int .i64 ((min m N : Nat) : Int)) (B0 :: Blk b T' cs' :: R)) :
  OpV C ⟨dst, .call { callee := .builtin .copy, args := #[x, y], argTypes := #[T, tS] }, ty, po, af, gj⟩ env (B0 :: Blk b T' cs :: R) K' := yH (L1 := [B0]) ht hsz hx hy hs hl h1 hb hc h
theorem zbU {B0 B1 : Assn} {R : List Assn} (hx : env.ev x = .pointer (some ⟨b, o, none⟩)) (hy : env.ev y = v) (hs : (C.P.info? T).map (·.size) = some (vl v).length) (h1 : (vl v).all (·.oneCell') = true) (hb : o + (vl v).length ≤ cs.length) (hc : cs.take o ++ vl v ++ cs.drop (o + (vl v).length) = cs')
  (h : K' undef (B0 :: B1 :: Blk b T' cs' :: R)) : OpV C ⟨dst, .store T x y, ty, po, af, gj⟩ env (B0 :: B1 :: Blk b T' cs :: R) K' :=
 E7 (L1 := [B0, B1]) hx hy hs h1 hb hc h
theorem zbR {B0 B1 B2 : Assn} {R : List Assn} (hx : env.ev x = .pointer (some ⟨b, o, none⟩)) (hy : env.ev y = v) (hs : (C.P.info? T).map (·.size) = some 1) (hv : vl v = [v]) (h1 : v.oneCell' = true) (hl : o < cs.length) (hc : cs.set o v = cs')
  (h : K' undef (B0 :: B1 :: B2 :: Blk b T' cs' :: R)) : OpV C ⟨dst, .store T x y, ty, po, af, gj⟩ env (B0 :: B1 :: B2 :: Blk b T' cs :: R) K' :=
 E7 (L1 := [B0, B1, B2]) hx hy (by rw [hv]; exact hs) (by rw [hv]; simp [h1]) (by rw [hv]; exact hl) (by rw [hv]; exact (dY hl).trans hc) h
theorem n8 {o : Oper} {v v' : Value} (h : Qt C L o env v) (e : v = v') : Qt C L o env v' := e ▸ h
theorem zdc {src dstT : TypeId} {k : IntKind} {n : Nat} (h1 : C.P.underlying src = some (.int k)) (h2 : C.P.underlying dstT = some (.int .u64)) (hx : env.ev x = .int k (-(n : Int))) (hn : 1 ≤ n) (hm : n ≤ 9223372036854775808) :
  Qt C L ⟨dst, .convert src dstT x, ty, po, af, gj⟩ env (.int .u64 ((18446744073709551616 - n : Nat) : Int)) := by
 have h := rK (C := C) (L := L) (dst := dst) (ty := ty) (po := po) (af := af) (gj := gj) h1 h2 hx
 have e : IntKind.u64.wrap (-(n : Int)) = ((18446744073709551616 - n : Nat) : Int) := by
  simp only [IntKind.wrap, IntKind.bits, IntKind.signed, Bool.false_and, if_false, Bool.false_eq_true]
  omega
 rwa [e] at h
theorem zaH {P : Program} {w : World} {A : y8} {n c : Nat} (ht : P.underlying T = some (.slice e)) (d : Nat) : (Op.equalIn (d + 1) T (.slice A n c) (.slice none 0 0)).run P w = .ok A.isNone w := by
 cases A <;> simp [Op.equalIn, run_underlying ht]
theorem tM {A : y8} {n c : Nat} {ty2 : TypeId} (ht : C.P.underlying T = some (.slice e)) (hx : env.ev x = .slice A n c) : Qt C L ⟨dst, .binOp .eql T x (.const (.slice none 0 0)) ty2, ty, po, af, gj⟩ env (.bool A.isNone) := fun w _ => by
 have h : (Op.equal T (.slice A n c) (.slice none 0 0)).run C.P w = .ok A.isNone w := zaH ht 9999
 have h0 : env.ev (.const (.slice none 0 0)) = .slice none 0 0 := rfl
 simp [execOp, hx, h0, eqGuard, binOp, h]
theorem dP {cs : List Value} {w : World} (h : (SlA none cs).ok w) : cs = [] := by
 cases cs with
 | nil => rfl
 | cons u l => obtain ⟨_, h0, _⟩ := h 0 u rfl; cases h0
theorem zh5 {Q : EQ} {c : Code} {A : Assn} {p : Prop} (hA : Has C L A) (h : ∀ w, A.ok w → p) (k : p → TC C c Q env L) : TC C c Q env L := fun a w ha hw => k (h w (hA w hw)) a w ha hw
theorem zh8 {Q : EQ} {ops : Array Oper} {l : List Oper} {A : Assn} {p : Prop} (hA : Has C L A) (h : ∀ w, A.ok w → p) (k : p → TL C ops Q l env L) : TL C ops Q l env L := fun a w ha hw => k (h w (hA w hw)) a w ha hw
theorem JM (l : List Value) : ∀ (p s r : List Value) (o : Nat), o = p.length → s.length = l.length →
  (l.toArray.zipIdx.foldl (fun (cs : Array Value) (c, j) => cs.setIfInBounds (o + j) c) (p ++ s ++ r).toArray) = (p ++ l ++ r).toArray := by
 have key : ∀ (l p s r : List Value) (o k : Nat), o + k = p.length → s.length = l.length →
   ((l.zipIdx k).foldl (fun (cs : Array Value) (c, j) => cs.setIfInBounds (o + j) c) (p ++ s ++ r).toArray) = (p ++ l ++ r).toArray := by
  intro l
  induction l with
  | nil => intro p s r o k _ h; obtain rfl : s = [] := List.eq_nil_of_length_eq_zero h; rfl
  | cons c l ih =>
   intro p s r o k ho h
   cases s with
   | nil => simp at h
   | cons d s =>
    rw [List.zipIdx_cons, List.foldl_cons]
    have e : (p ++ d :: s ++ r).toArray.setIfInBounds (o + k) c = (p ++ [c] ++ s ++ r).toArray := by
     rw [ho]; simp
    dsimp only
    rw [e, ih (p ++ [c]) s r o (k + 1) (by simp; omega) (by simpa using h)]
    simp
 intro p s r o ho h
 rw [← Array.foldl_toList, Array.toList_zipIdx]
 exact key l p s r o 0 ow h
theorem GO (sz : Nat) : ∀ (vs : List Value) (k : Nat) (p s : List Value), (∀ v ∈ vs, (vl v).length = sz) → p.length = k * sz → s.length = vs.length * sz →
  Instr.fill (fun i => some (i * sz, sz)) (p ++ s).toArray ((vs.zipIdx k).map fun q => (q.2, q.1)) = some (p ++ vs.flatMap vl).toArray
 | [], k, p, s, _, _, hs => by
  obtain rfl : s = [] := List.eq_nil_of_length_eq_zero (by simpa using hs)
  simp [Instr.fill]
 | v :: vs, k, p, s, hv, hp, hs => by
  have h1 : (vl v).length = sz := hv v (List.mem_cons_self ..)
  have hle : sz ≤ s.length := by rw [hs, List.length_cons, Nat.add_mul, Nat.one_mul]; omega
  have hc : v.cells = (vl v).toArray := bY v
  have e1 : p ++ s = p ++ s.take sz ++ s.drop sz := by rw [List.append_assoc, List.take_append_drop]
  have h2 := JM (vl v) p (s.take sz) (s.drop sz) (k * sz) hp.symm (by rw [List.length_take, h1]; omega)
  rw [List.zipIdx_cons, List.map_cons]
  simp only [Instr.fill, hc]
  rw [if_neg (by simp [h1]; omega)]
  rw [e1, h2]
  have ih := GO sz vs (k + 1) (p ++ vl v) (s.drop sz) (fun u hu => hv u (List.mem_cons_of_mem _ hu)) (by rw [List.length_append, hp, h1, Nat.add_mul, Nat.one_mul]) (by rw [List.length_drop, hs, List.length_cons, Nat.add_mul, Nat.one_mul]; omega)
  rw [ih]
  simp
theorem uK {parts : List (Nat × Operand)} {vs : List Value} {sz bytes len : Nat} (ht : C.P.underlying T = some (.slice e)) (he : S3 C.P e sz bytes) (hn : vs.length = len) (hle : len * sz ≤ 16777216) (hp : parts.map (fun q => (q.1, env.ev q.2)) = (vs.zipIdx 0).map fun q => (q.2, q.1)) (hv : ∀ v ∈ vs, (vl v).length = sz)
  (h : ∀ b, K' (.slice (some ⟨b, 0, none⟩) len len) (Blk b e (vs.flatMap vl) :: L)) : OpV C ⟨dst, .buildSlice T len parts.toArray, ty, po, af, gj⟩ env L K' := by
 subst hn
 obtain ⟨i, z, h1, h2, h3, h4, h5, h6⟩ := he
 refine aU (sz := sz) (cs := vs.flatMap vl) ht (by rw [h1]; exact congrArg some h3) hle ⟨z, by simp [gI, h1, h2], ?_⟩ h
 have hl : (parts.toArray.map fun (i, x) => (i, env.ev x)).toList = (vs.zipIdx 0).map fun q => (q.2, q.1) := by rw [← hp]; simp
 rw [hl]
 obtain ⟨zl, hz⟩ : ∃ zl : List Value, zl.length = vs.length * sz ∧ (((Array.range (vs.length * sz)).map fun j => (if vs.length * sz = 0 then #[] else z.cells)[j % (if vs.length * sz = 0 then #[] else z.cells).size]!)) = zl.toArray := ⟨_, by simp, (Array.toArray_toList).symm⟩
 rw [hz.2]
 have := GO sz vs 0 [] zl hv (by simp) hz.1
 simpa using this
def Places (pl : Nat → Option (Nat × Nat)) : List Value → Nat → Nat → Prop
 | [], _, _ => True
 | v :: vs, k, o => pl k = some (o, (vl v).length) ∧ Places pl vs (k + 1) (o + (vl v).length)
theorem oJ (pl : Nat → Option (Nat × Nat)) : ∀ (vs : List Value) (k : Nat) (p s r : List Value), Places pl vs k p.length → s.length = (vs.flatMap vl).length →
  Instr.fill pl (p ++ s ++ r).toArray ((vs.zipIdx k).map fun q => (q.2, q.1)) = some (p ++ vs.flatMap vl ++ r).toArray
 | [], k, p, s, r, _, hs => by
  obtain rfl : s = [] := List.eq_nil_of_length_eq_zero (by simpa using hs)
  simp [Instr.fill]
 | v :: vs, k, p, s, r, h, hs => by
  obtain ⟨h1, h2⟩ := h
  rw [List.flatMap_cons, List.length_append] at hs
  have hc : v.cells = (vl v).toArray := bY v
  have e1 : p ++ s ++ r = p ++ s.take (vl v).length ++ (s.drop (vl v).length ++ r) := by
   rw [List.append_assoc p, List.append_assoc p, ← List.append_assoc (s.take _), List.take_append_drop]
  have h3 := JM (vl v) p (s.take (vl v).length) (s.drop (vl v).length ++ r) p.length rfl (by rw [List.length_take]; omega)
  rw [List.zipIdx_cons, List.map_cons]
  simp only [Instr.fill, h1, hc]
  rw [if_neg (by simp; omega)]
  rw [e1, h3]
  have ih := oJ pl vs (k + 1) (p ++ vl v) (s.drop (vl v).length) r (by rw [List.length_append]; exact h2) (by rw [List.length_drop]; omega)
  rw [← List.append_assoc, ih, List.flatMap_cons]
  simp
theorem uM (sz : Nat) : ∀ (vs : List Value) (k : Nat), (∀ v ∈ vs, (vl v).length = sz) → Places (fun i => some (i * sz, sz)) vs k (k * sz)
 | [], _, _ => trivial
 | v :: vs, k, h => ⟨by rw [h v (List.mem_cons_self ..)], by
  rw [h v (List.mem_cons_self ..), ← Nat.succ_mul]
  exact uM sz vs (k + 1) fun u hu => h u (List.mem_cons_of_mem _ hu)⟩
theorem nQ {P : Program} {T : TypeId} {zs : List Value} (h : E3 P T = some zs) : ∃ z, (∀ w, (zeroValue T).run P w = .ok z w) ∧ z.cells = zs.toArray := by
 unfold E3 at h
 obtain ⟨z, hz, rfl⟩ := Option.map_eq_some_iff.1 h
 exact ⟨z, fun w => qV hz, bY z⟩
theorem rJ {N sz : Nat} {parts : List (Nat × Operand)} {vs zs : List Value} (ht : C.P.underlying T = some (.array N e)) (hsz : (C.P.info? e).map (·.size) = some sz) (hz : E3 C.P T = some zs) (hp : parts.map (fun q => (q.1, env.ev q.2)) = (vs.zipIdx 0).map fun q => (q.2, q.1))
  (hv : ∀ v ∈ vs, (vl v).length = sz) (hl : (vs.flatMap vl).length ≤ zs.length) : Qt C L ⟨dst, .build T parts.toArray, ty, po, af, gj⟩ env (.agg (vs.flatMap vl ++ zs.drop (vs.flatMap vl).length).toArray) := fun w _ => by
 obtain ⟨inf, hin, hs⟩ := Option.map_eq_some_iff.1 hsz
 obtain ⟨z, N3, aH⟩ := nQ hz
 have hl1 : (parts.toArray.map fun (i, x) => (i, env.ev x)).toList = (vs.zipIdx 0).map fun q => (q.2, q.1) := by rw [← hp]; simp
 have h0 := uM sz vs 0 hv
 rw [Nat.zero_mul] at h0
 have hf := oJ (fun i => some (i * sz, sz)) vs 0 [] (zs.take (vs.flatMap vl).length) (zs.drop (vs.flatMap vl).length) h0 (by rw [List.length_take]; omega)
 simp only [List.nil_append, List.take_append_drop] at hf
 simp only [execOp, Instr.build, Sem.run_bind, N3, run_underlying ht, Result.andThen_ok, sizeOf, typeInfo, run_program, hin, hs, Sem.run_pure, aH, hl1, hf]
theorem F5 {fs : Array Field} {pls : Array (Nat × Nat)} {parts : List (Nat × Operand)} {vs zs : List Value} (ht : C.P.underlying T = some (.struct fs)) (hpl : ∀ w, (fs.mapM fun f => do pure (f.offset, ← sizeOf f.type) : Sem (Array (Nat × Nat))).run C.P w = .ok pls w) (hz : E3 C.P T = some zs)
  (hp : parts.map (fun q => (q.1, env.ev q.2)) = (vs.zipIdx 0).map fun q => (q.2, q.1)) (hv : Places (fun i => pls[i]?) vs 0 0) (hl : zs.length = (vs.flatMap vl).length) : Qt C L ⟨dst, .build T parts.toArray, ty, po, af, gj⟩ env (.agg (vs.flatMap vl).toArray) := fun w _ => by
 obtain ⟨z, N3, aH⟩ := nQ hz
 have hl1 : (parts.toArray.map fun (i, x) => (i, env.ev x)).toList = (vs.zipIdx 0).map fun q => (q.2, q.1) := by rw [← hp]; simp
 have hf := oJ (fun i => pls[i]?) vs 0 [] zs [] hv hl
 simp only [List.nil_append, List.append_nil] at hf
 simp only [execOp, Instr.build, Sem.run_bind, N3, run_underlying ht, Result.andThen_ok, hpl, Sem.run_pure, aH, hl1, hf]
theorem Q2 {parts : List (Nat × Operand)} {vs : List Value} {sz bytes len : Nat} (ht : C.P.underlying T = some (.slice e)) (he : S3 C.P e sz bytes) (hn : vs.length = len) (hle : len * sz ≤ 16777216) (hp : parts.map (fun q => (q.1, env.ev q.2)) = (vs.zipIdx 0).map fun q => (q.2, q.1)) (hv : ∀ v ∈ vs, (vl v).length = sz)
  (h : ∀ b, K' (.slice (some ⟨b, 0, none⟩) len len) (OwnA e sz (some ⟨b, 0, none⟩) len len (vs.flatMap vl) :: L)) : OpV C ⟨dst, .buildSlice T len parts.toArray, ty, po, af, gj⟩ env L K' := by
 have hpos : 0 < sz := by obtain ⟨_, _, _, _, _, _, _, h⟩ := he; exact h
 have hb := uK (C := C) (env := env) (L := L) (dst := dst) (ty := ty) (po := po) (af := af) (gj := gj) (K' := fun v L' => ∃ b, v = .slice (some ⟨b, 0, none⟩) len len ∧ L' = Blk b e (vs.flatMap vl) :: L) ht he hn hle hp hv (fun b => ⟨b, rfl, rfl⟩)
 have hfl : (vs.flatMap vl).length = len * sz := by
  rw [← hn, List.length_flatMap]
  clear hp hb h hle hn
  induction vs with
  | nil => simp
  | cons v vs ih =>
   rw [List.map_cons, List.sum_cons, hv v (List.mem_cons_self ..), ih (fun u hu => hv u (List.mem_cons_of_mem _ hu)), List.length_cons, Nat.succ_mul, Nat.add_comm]
 have hm : len ≤ maxLen := by
  have : len * 1 ≤ len * sz := Nat.mul_le_mul_left _ hpos
  simp only [maxLen]; omega
 intro w hw
 refine (hb w hw).mono ?_
 rintro v w' ⟨L', hs, b, rfl, rfl⟩
 have := hs.shutOwn (c := len) (n := len) hfl (Nat.le_refl _) hm
 rw [← hfl, List.take_length] at this
 exact ⟨_, this, h b⟩
theorem zjP (n : Nat) : n &&& 31 = n % 32 := Nat.and_two_pow_sub_one_eq_mod n 5
theorem ziS {k : Nat} (h1 : 1 ≤ k) (h2 : k ≤ 31) : (18446744073709551616 - k) &&& 31 = 32 - k := by
 rw [zjP]; omega
end Go.E
namespace Go.E
abbrev W := BitVec 32
def M5 (xs : List W) : List Value := xs.map fun (x : W) => .int .u32 (x.toNat : Int)
theorem u4 (xs : List W) : (M5 xs).length = xs.length := by simp [M5]
theorem z3 {xs : List W} {i k : Nat} (h : i < xs.length) (hk : k = i) : (M5 xs)[k]? = some (.int .u32 ((xs.getD i 0).toNat : Int)) := by
 subst hk; simp [M5, List.getElem?_eq_getElem h, List.getD]
theorem AX {xs : List W} {i : Nat} (h : i < xs.length) : (M5 xs).toArray[i]? = some (.int .u32 ((xs.getD i 0).toNat : Int)) := by
 simp [M5, List.getElem?_eq_getElem h, List.getD]
theorem kZ (xs : List W) (i : Nat) (x : W) : (M5 xs).set i (.int .u32 (x.toNat : Int)) = M5 (xs.set i x) := by simp [M5, List.map_set]
theorem zhW (l : List W) : ∀ u ∈ M5 l, u.oneCell' = true := by
 intro u hu
 obtain ⟨b, _, rfl⟩ := List.mem_map.1 hu
 rfl
theorem uS {xs : List UInt8} {i k : Nat} (h : i < xs.length) (hk : k = i) : (e9 xs)[k]? = some (.int .u8 ((xs.getD i 0).toNat : Int)) := by
 subst hk; simp [e9, List.getElem?_eq_getElem h, List.getD]
theorem zdo (xs : List UInt8) (i : Nat) (x : UInt8) : (e9 xs).set i (.int .u8 (x.toNat : Int)) = e9 (xs.set i x) := by simp [e9, List.map_set]
theorem H5 (a b : List UInt8) : e9 (a ++ b) = e9 a ++ e9 b := by simp [e9]
theorem kC (a : List UInt8) (k : Nat) : (e9 a).drop k = e9 (a.drop k) := by simp [e9]
theorem kD (a : List UInt8) (k : Nat) : (e9 a).take k = e9 (a.take k) := by simp [e9]
def K256 : List W := [
 0x428a2f98, 0x71374491, 0xb5c0fbcf, 0xe9b5dba5, 0x3956c25b, 0x59f111f1, 0x923f82a4, 0xab1c5ed5,
 0xd807aa98, 0x12835b01, 0x243185be, 0x550c7dc3, 0x72be5d74, 0x80deb1fe, 0x9bdc06a7, 0xc19bf174,
 0xe49b69c1, 0xefbe4786, 0x0fc19dc6, 0x240ca1cc, 0x2de92c6f, 0x4a7484aa, 0x5cb0a9dc, 0x76f988da,
 0x983e5152, 0xa831c66d, 0xb00327c8, 0xbf597fc7, 0xc6e00bf3, 0xd5a79147, 0x06ca6351, 0x14292967,
 0x27b70a85, 0x2e1b2138, 0x4d2c6dfc, 0x53380d13, 0x650a7354, 0x766a0abb, 0x81c2c92e, 0x92722c85,
 0xa2bfe8a1, 0xa81a664b, 0xc24b8b70, 0xc76c51a3, 0xd192e819, 0xd6990624, 0xf40e3585, 0x106aa070,
 0x19a4c116, 0x1e376c08, 0x2748774c, 0x34b0bcb5, 0x391c0cb3, 0x4ed8aa4a, 0x5b9cca4f, 0x682e6ff3,
 0x748f82ee, 0x78a5636f, 0x84c87814, 0x8cc70208, 0x90befffa, 0xa4506ceb, 0xbef9a3f7, 0xc67178f2]
def I256 : List W := [0x6a09e667, 0xbb67ae85, 0x3c6ef372, 0xa54ff53a, 0x510e527f, 0x9b05688c, 0x1f83d9ab, 0x5be0cd19]
theorem rE : K256.length = 64 := rfl
theorem fI : I256.length = 8 := rfl
def HL (x : W) (k : Nat) : W := x >>> k ||| x <<< (32 - k)
def lA (bl : List UInt8) (i : Nat) : W :=
 BitVec.ofNat 32 (bl.getD i 0).toNat <<< 24 ||| BitVec.ofNat 32 (bl.getD (i + 1) 0).toNat <<< 16 ||| BitVec.ofNat 32 (bl.getD (i + 2) 0).toNat <<< 8 ||| BitVec.ofNat 32 (bl.getD (i + 3) 0).toNat
def sg0 (x : W) : W := HL x 7 ^^^ HL x 18 ^^^ x >>> 3
def sg1 (y : W) : W := HL y 17 ^^^ HL y 19 ^^^ y >>> 10
def wD (bl : List UInt8) (ws : List W) (t : Nat) : W :=
 if t < 16 then lA bl (4 * t) else ws.getD (t - 16) 0 + sg0 (ws.getD (t - 15) 0) + ws.getD (t - 7) 0 + sg1 (ws.getD (t - 2) 0)
def bW (bl : List UInt8) : Nat → List W
 | 0 => []
 | t + 1 => bW bl t ++ [wD bl (bW bl t) t]
theorem W3 (bl : List UInt8) : ∀ t, (bW bl t).length = t
 | 0 => rfl
 | t + 1 => by simp [bW, W3 bl t]
theorem fT {α : Type} (a b : List α) (i : Nat) (d : α) (h : i < a.length) : (a ++ b).getD i d = a.getD i d := by
 simp [List.getD, List.getElem?_append_left h]
theorem xJ {α : Type} (a : List α) (n : Nat) (z x : α) (h : 0 < n) : (a ++ List.replicate n z).set a.length x = (a ++ [x]) ++ List.replicate (n - 1) z := by
 obtain ⟨m, rfl⟩ : ∃ m, n = m + 1 := ⟨n - 1, by omega⟩
 rw [List.set_append_right _ _ (Nat.le_refl _)]
 simp [List.replicate_succ]
def R3 (bl : List UInt8) (t : Nat) : List W := bW bl t ++ List.replicate (64 - t) 0
theorem C0 (bl : List UInt8) {t : Nat} (h : t ≤ 64) : (R3 bl t).length = 64 := by simp [R3, W3]; omega
theorem Z6 (bl : List UInt8) {t i : Nat} (h : i < t) : (R3 bl t).getD i 0 = (bW bl t).getD i 0 := fT _ _ _ _ (by rw [W3]; exact h)
theorem jP (bl : List UInt8) {t : Nat} (h : t < 64) (x : W) (hx : x = wD bl (bW bl t) t) : (R3 bl t).set t x = R3 bl (t + 1) := by
 subst hx
 have := xJ (bW bl t) (64 - t) 0 (wD bl (bW bl t) t) ow
 rw [W3] at this
 rw [R3, this, R3, bW, show 64 - t - 1 = 64 - (t + 1) by omega]
theorem xH (bl : List UInt8) : R3 bl 64 = bW bl 64 := by simp [R3]
def LG (s : List W) (k w : W) : List W :=
 let a := s.getD 0 0; let b := s.getD 1 0; let c := s.getD 2 0; let e := s.getD 4 0; let f := s.getD 5 0; let g := s.getD 6 0
 let p := s.getD 7 0 + (HL e 6 ^^^ HL e 11 ^^^ HL e 25) + (e &&& f ^^^ ~~~ e &&& g) + k + w
 let q := (HL a 2 ^^^ HL a 13 ^^^ HL a 22) + (a &&& b ^^^ a &&& c ^^^ b &&& c)
 [p + q, a, b, c, s.getD 3 0 + p, e, f, g]
def dX (s : List W) (ws : List W) : Nat → List W
 | 0 => s
 | t + 1 => LG (dX s ws t) (K256.getD t 0) (ws.getD t 0)
theorem xC (s : List W) (k w : W) : (LG s k w).length = 8 := rfl
theorem R9 {s : List W} (h : s.length = 8) (ws : List W) : ∀ t, (dX s ws t).length = 8
 | 0 => h
 | _ + 1 => rfl
def mJ (s t : List W) : List W := [s.getD 0 0 + t.getD 0 0, s.getD 1 0 + t.getD 1 0, s.getD 2 0 + t.getD 2 0, s.getD 3 0 + t.getD 3 0, s.getD 4 0 + t.getD 4 0, s.getD 5 0 + t.getD 5 0, s.getD 6 0 + t.getD 6 0, s.getD 7 0 + t.getD 7 0]
def BJ (s : List W) (bl : List UInt8) : List W := mJ (dX s (bW bl 64) 64) s
theorem fQ (s : List W) (bl : List UInt8) : (BJ s bl).length = 8 := rfl
def JW (n : Nat) : List UInt8 := (List.range 8).map fun i => UInt8.ofNat (n / 2 ^ (56 - 8 * i))
def I4 (n : Nat) : Nat := (119 - n % 64) % 64
def V1 (b : List UInt8) : List UInt8 := b ++ [128] ++ List.replicate (I4 b.length) 0 ++ JW (b.length * 8 % 18446744073709551616)
theorem mT (n : Nat) : (JW n).length = 8 := by simp [JW]
theorem dD (b : List UInt8) : (V1 b).length = b.length + 1 + I4 b.length + 8 := by simp [V1, mT]; omega
theorem kM (n : Nat) : (n + 1 + I4 n) % 64 = 56 := by unfold I4; omega
theorem EG (b : List UInt8) : (V1 b).length % 64 = 0 := by rw [dD]; have := kM b.length; omega
def jR (p : List UInt8) (i : Nat) : List UInt8 := (p.drop (64 * i)).take 64
def mO (p : List UInt8) : Nat → List W
 | 0 => I256
 | n + 1 => BJ (mO p n) (jR p n)
theorem bX (p : List UInt8) : ∀ n, (mO p n).length = 8
 | 0 => rfl
 | _ + 1 => rfl
def w4 (x : W) : List UInt8 := [UInt8.ofNat (x >>> 24).toNat, UInt8.ofNat (x >>> 16).toNat, UInt8.ofNat (x >>> 8).toNat, UInt8.ofNat x.toNat]
def gO (s : List W) : List UInt8 := s.flatMap w4
theorem Z4 (s : List W) : (gO s).length = 4 * s.length := by
 induction s with
 | nil => rfl
 | cons x s ih => simp only [gO, List.flatMap_cons, List.length_append] at ih ⊢; rw [ih]; simp [w4]; omega
def FU (b : List UInt8) : List UInt8 := gO (mO (V1 b) ((V1 b).length / 64))
theorem zcW (b : List UInt8) : (FU b).length = 32 := by rw [FU, Z4, bX]
def K3 (b : List UInt8) : i6 := ⟨FU b, zcW b⟩
/-! the document's way to write it -/
theorem JG {n m i : Nat} (h : m < 2 ^ i) : n <<< i + m = n <<< i ||| m := Nat.shiftLeft_add_eq_or_of_lt h n
def AY (w : W) (b : UInt8) : W := w * 256 + BitVec.ofNat 32 b.toNat
theorem zc5 (w : W) (b : UInt8) : (AY w b).toNat = (w.toNat * 256 + b.toNat) % 4294967296 := by
 have := AR b
 have h256 : (256 : W).toNat = 256 := rfl
 simp only [AY, BitVec.toNat_add, BitVec.toNat_mul, BitVec.toNat_ofNat, h256]
 omega
theorem or4 {a b c d : Nat} (ha : a ≤ 255) (hb : b ≤ 255) (hc : c ≤ 255) (hd : d ≤ 255) : a <<< 24 ||| b <<< 16 ||| c <<< 8 ||| d = ((a * 256 + b) * 256 + c) * 256 + d := by
 have e1 : a <<< 24 ||| b <<< 16 = (a * 256 + b) <<< 16 := by
  rw [← JG (by rw [Nat.shiftLeft_eq]; omega)]; simp only [Nat.shiftLeft_eq]; omega
 have e2 : (a * 256 + b) <<< 16 ||| c <<< 8 = ((a * 256 + b) * 256 + c) <<< 8 := by
  rw [← JG (by rw [Nat.shiftLeft_eq]; omega)]; simp only [Nat.shiftLeft_eq]; omega
 rw [e1, e2, ← JG ow]; simp only [Nat.shiftLeft_eq]
theorem zbK (bl : List UInt8) (i : Nat) : lA bl i = AY (AY (AY (AY 0 (bl.getD i 0)) (bl.getD (i + 1) 0)) (bl.getD (i + 2) 0)) (bl.getD (i + 3) 0) := by
 have h0 := AR (bl.getD i 0); have h1 := AR (bl.getD (i + 1) 0); have h2 := AR (bl.getD (i + 2) 0); have h3 := AR (bl.getD (i + 3) 0)
 apply BitVec.eq_of_toNat_eq
 simp only [zc5, lA, BitVec.toNat_or, BitVec.toNat_shiftLeft, BitVec.toNat_ofNat]
 generalize (bl.getD i 0).toNat = a at *
 generalize (bl.getD (i + 1) 0).toNat = b at *
 generalize (bl.getD (i + 2) 0).toNat = c at *
 generalize (bl.getD (i + 3) 0).toNat = d at *
 have m : ∀ n s, n ≤ 255 → s ≤ 24 → (n % 2 ^ 32) <<< s % 2 ^ 32 = n <<< s := fun n s hn hs => by
  rw [Nat.mod_eq_of_lt (a := n) ow, Nat.shiftLeft_eq]
  have : 2 ^ s ≤ 2 ^ 24 := Nat.pow_le_pow_right (by decide) hs
  exact Nat.mod_eq_of_lt (Nat.lt_of_le_of_lt (Nat.mul_le_mul hn this) (by decide))
 rw [m a 24 h0 ow, m b 16 h1 ow, m c 8 h2 ow, Nat.mod_eq_of_lt (a := d) ow, or4 h0 h1 h2 h3]
 simp
 omega
theorem ziQ (x : W) {k : Nat} (h : k ≤ 32) : x <<< (32 - k) ||| x >>> (32 - (32 - k)) = HL x k := by
 rw [show 32 - (32 - k) = k by omega, BitVec.or_comm]; rfl
theorem zfz (s : List W) {i : Nat} (h : i < 4 * s.length) : (gO s).getD i 0 = UInt8.ofNat ((s.getD (i / 4) 0) >>> (24 - 8 * (i % 4))).toNat := by
 induction s generalizing i with
 | nil => simp at h
 | cons x s ih =>
  have hd : gO (x :: s) = w4 x ++ gO s := rfl
  rw [hd]
  rcases Nat.lt_or_ge i 4 with h4 | h4
  ·rw [fT _ _ _ _ (by simpa [w4] using h4)]
   have : i = 0 ∨ i = 1 ∨ i = 2 ∨ i = 3 := by omega
   rcases this with rfl | rfl | rfl | rfl <;> simp [w4, List.getD]
  ·have h5 : (w4 x ++ gO s).getD i 0 = (gO s).getD (i - 4) 0 := by
    simp only [List.getD]
    rw [List.getElem?_append_right (by simpa [w4] using h4)]
    rfl
   rw [h5, ih (by simp only [List.length_cons] at h; omega)]
   have h6 : (x :: s).getD (i / 4) 0 = s.getD ((i - 4) / 4) 0 := by
    rw [show i / 4 = (i - 4) / 4 + 1 by omega]; rfl
   rw [h6, show i % 4 = (i - 4) % 4 by omega]
/-! parts of blocks; the tables -/
theorem o6 (l : List Value) : vl (.agg l.toArray) = l := rfl
theorem bZ (l : List W) : (vl (.agg (M5 l).toArray)).all (·.oneCell') = true := List.all_eq_true.2 (zhW l)
theorem uU (l : List UInt8) : (vl (.agg (e9 l).toArray)).all (·.oneCell') = true := List.all_eq_true.2 (r9 l)
variable {C : Ctx} {L : List Assn}
theorem Rd.part {b : Nat} {T : TypeId} {cs : List Value} (h : Rd C L (Blk b T cs)) (o n : Nat) : Rd C L (SlA (some ⟨b, o, none⟩) ((cs.drop o).take n)) := h.sub (fun k hk => by
  rw [bN] at hk
  obtain ⟨a, ha, rfl, _⟩ := U9 hk
  injection ha with ha
  subst ha
  exact List.mem_cons_self ..) fun w hw j u hj => by
 refine ⟨_, rfl, ?_⟩
 rw [Q4, bA hw]
 rw [List.getElem?_take] at hj
 split at hj
 ·rwa [List.getElem?_drop] at hj
 ·cases hj
theorem za5 {b : Nat} {T : TypeId} {bl : List UInt8} (h : Rd C L (Blk b T (e9 bl))) (o n : Nat) : Rd C L (SlA (some ⟨b, o, none⟩) (e9 ((bl.drop o).take n))) := by
 have := Rd.part h o n
 rwa [kC, kD] at this
theorem e4 {b : Nat} {T : TypeId} {bl : List UInt8} (h : Rd C L (Blk b T (e9 bl))) : Rd C L (SlA (some ⟨b, 0, none⟩) (e9 bl)) := Rd.blk h
theorem II {b o : Nat} {cs : List Value} {T : TypeId} {k : Nat} {v : Value} (h : Has C L (SlA (some ⟨b, o, none⟩) cs)) (hT : BT C.P T = true) (hv : cs[k]? = some v) : Ld C L (some ⟨b, o + k, none⟩) T v := fun w hw => by
 obtain ⟨a, ha, hu⟩ := h w hw k v hv
 injection ha with ha
 subst ha
 rw [Q4] at hu
 exact ⟨_, rfl, dM hT hu⟩
def Tabs (gk gi : Nat) (w : World) (M : List Nat) : Prop := Ro w M (SlA (some ⟨gk, 0, none⟩) (M5 K256)) ∧ Ro w M (SlA (some ⟨gi, 0, none⟩) (M5 I256))
theorem Tabs.at {gk gi : Nat} (h : Tabs gk gi C.w0 C.M) {w : World} (hw : St C.w0 C.M L w) : Tabs gk gi w [] := ⟨Rd.ro h.1 w hw, Rd.ro h.2 w hw⟩
theorem Tabs.pre {gk gi : Nat} {w0 w : World} {M : List Nat} {Pre R : List Assn} (h : Tabs gk gi w0 M) (hw : St w0 M (Pre ++ R) w) : Tabs gk gi w (A8 Pre) := ⟨u5 hw h.1, u5 hw h.2⟩
theorem Tabs.of_go {gk gi : Nat} {w0 w : World} {M N : List Nat} {L : List Assn} (h : Tabs gk gi w0 M) (hw : St w0 M L w) (hN : ∀ b ∈ N, b ∈ M ∨ w0.heap.size ≤ b) : Tabs gk gi w N := ⟨h.1.go hw hN, h.2.go hw hN⟩
theorem tC (bl : List UInt8) : M5 (R3 bl 0) = List.replicate 64 (.int .u32 0) := by simp [R3, bW, M5]
theorem lJ {α : Type} (l : List α) (o n i : Nat) (d : α) (h : i < n) : ((l.drop o).take n).getD i d = l.getD (o + i) d := by
 simp [List.getD, h]
theorem zgm (bl : List UInt8) (o : Nat) : lA ((bl.drop o).take 4) 0 = lA bl o := by
 simp only [lA, lJ _ _ _ _ _ (show 0 < 4 by omega), lJ _ _ _ _ _ (show 0 + 1 < 4 by omega), lJ _ _ _ _ _ (show 0 + 2 < 4 by omega), lJ _ _ _ _ _ (show 0 + 3 < 4 by omega)]
 rfl
theorem sN {α : Type} (l : List α) (o n : Nat) (h : o + n ≤ l.length) : ((l.drop o).take n).length = n := by
 simp; omega
def oB (r s : List W) (i : Nat) : List W := (List.range 8).map fun j => if j < i then r.getD j 0 + s.getD j 0 else r.getD j 0
theorem V7 (r s : List W) (i : Nat) : (oB r s i).length = 8 := by simp [oB]
theorem zeD {r : List W} (s : List W) (h : r.length = 8) : oB r s 0 = r := by
 refine List.ext_getElem (by rw [V7, h]) fun i h1 h2 => ?_
 simp [oB, List.getD, h2]
theorem zgC (r s : List W) {i : Nat} (h : i < 8) : (oB r s i).getD i 0 = r.getD i 0 := by
 simp [oB, List.getD, h]
theorem zgD (r s : List W) {i : Nat} (h : i < 8) : (oB r s i).set i (r.getD i 0 + s.getD i 0) = oB r s (i + 1) := by
 refine List.ext_getElem (by simp [V7]) fun j h1 h2 => ?_
 rw [List.getElem_set]
 by_cases hj : i = j
 ·subst hj; simp [oB]
 ·rw [if_neg hj]
  have h3 : (j < i + 1) = (j < i) := by apply propext; constructor <;> intro <;> omega
  simp [oB, h3]
theorem zgB (r s : List W) : oB r s 8 = mJ r s := rfl
theorem yU {l : List UInt8} {v : Value} (h : v ∈ e9 l) : (vl v).length = 1 := by
 obtain ⟨b, _, rfl⟩ := List.mem_map.1 h
 rfl
theorem uW {b : List UInt8} (h : e9 b = []) : b = [] := by simpa [e9] using h
theorem zgG (n : Nat) {i : Nat} (h : i < 8) : (JW n).take (i + 1) = (JW n).take i ++ [UInt8.ofNat (n / 2 ^ (56 - 8 * i))] := by
 rw [List.take_succ_eq_append_getElem (by rw [mT]; exact h)]
 simp [JW]
theorem zid (n : Nat) : (JW n).take 8 = JW n := List.take_of_length_le (by rw [mT]; exact Nat.le_refl _)
def wK (b : List UInt8) (j : Nat) : List UInt8 := b ++ [128] ++ List.replicate j 0
theorem zN (b : List UInt8) : e9 b ++ e9 [128] = e9 (wK b 0) := by rw [← H5]; simp [wK]
theorem zM (b : List UInt8) (j : Nat) : e9 (wK b j) ++ e9 [0] = e9 (wK b (j + 1)) := by
 rw [← H5, wK, wK, List.append_assoc, List.append_assoc, List.append_assoc]
 congr 3
 rw [List.replicate_succ']
def yD (b : List UInt8) (i : Nat) : List UInt8 := wK b (I4 b.length) ++ (JW (8 * b.length)).take i
theorem zP (b : List UInt8) : yD b 0 = wK b (I4 b.length) := by simp [yD]
theorem zO (b : List UInt8) {i : Nat} (h : i < 8) : e9 (yD b i) ++ e9 [UInt8.ofNat (8 * b.length / 2 ^ (56 - 8 * i))] = e9 (yD b (i + 1)) := by
 rw [← H5, yD, yD, zgG _ h, List.append_assoc]
theorem EF (b : List UInt8) (h : b.length ≤ 1000000000000000000) : yD b 8 = V1 b := by
 rw [yD, zid, V1, wK, Nat.mod_eq_of_lt ow, Nat.mul_comm]
theorem zdS {n j : Nat} (h : j ≤ I4 n) (h2 : (n + 1 + j) % 64 = 56) : j = I4 n := by
 have h3 := kM n
 have h4 : I4 n < 64 := by unfold I4; omega
 omega
theorem sI {n j : Nat} (h : j ≤ I4 n) (h2 : (n + 1 + j) % 64 ≠ 56) : j < I4 n := by
 have h3 := kM n
 rcases Nat.lt_or_ge j (I4 n) with h5 | h5
 ·exact h5
 ·obtain rfl : j = I4 n := by omega
  exact absurd h3 h2
/-! cut into blocks -/
theorem SlA.part {A : y8} {cs : List Value} {w : World} (h : (SlA A cs).ok w) (k n : Nat) : (SlA (A.map (·.add k)) ((cs.drop k).take n)).ok w := fun j u hj => by
 rw [List.getElem?_take] at hj
 split at hj
 ·rw [List.getElem?_drop] at hj
  obtain ⟨a, rfl, hu⟩ := h _ u hj
  exact ⟨a.add k, rfl, by rw [add_add]; exact hu⟩
 ·cases hj
theorem Ro.part {w : World} {M : List Nat} {A : y8} {cs : List Value} (h : Ro w M (SlA A cs)) (k n : Nat) : Ro w M (SlA (A.map (·.add k)) ((cs.drop k).take n)) :=
 ⟨SlA.part h.1 k n, fun b hb => by
  rw [bN] at hb
  obtain ⟨a, ha, rfl, hne⟩ := U9 hb
  cases A with
  | none => cases ha
  | some a0 =>
   injection ha with ha
   subst ha
   rw [lE]
   refine h.2 _ ?_
   rw [bN]
   exact tW (fun e => hne (by rw [e]; simp))⟩
theorem nY {w : World} {M : List Nat} {A : y8} {bl : List UInt8} (h : Ro w M (SlA A (e9 bl))) (k n : Nat) : Ro w M (SlA (A.map (·.add k)) (e9 ((bl.drop k).take n))) := by
 have := Ro.part h k n
 rwa [kC, kD] at this
theorem Ro.own {w : World} {M : List Nat} {e : TypeId} {sz n c : Nat} {A : y8} {xs : List Value} (h : Ro w M (OwnA e sz A n c xs)) : Ro w M (SlA A xs) :=
 ⟨BB h.1, fun b hb => h.2 b (by
  rw [bN] at hb
  obtain ⟨a, rfl, rfl, hne⟩ := U9 hb
  rcases h.1.2 with ⟨hv, hn⟩ | ⟨g, cap, cur, hv, _⟩
  ·injection hv with h1; cases h1
  ·injection hv with h1 h2 h3
   injection h1 with h1
   subst h1
   show _ ∈ (Value.ownBlock (.slice (some ⟨g, 0, none⟩) n c)).toList
   simp [Value.ownBlock])⟩
theorem dR {p : List UInt8} {i m : Nat} (h : i < m) (hm : p.length = 64 * m) : (jR p i).length = 64 := sN _ _ _ ow
def rC {m : Nat} (p : List UInt8) (pre : List (Fin m)) : List W := pre.foldl (fun s (i : Fin m) => BJ s (jR p i.val)) I256
theorem gE {m : Nat} (p : List UInt8) (pre : List (Fin m)) : (rC p pre).length = 8 := by
 unfold rC
 rw [← List.reverse_reverse pre, List.foldl_reverse]
 cases pre.reverse <;> rfl
theorem AL {m : Nat} (p : List UInt8) (pre : List (Fin m)) (x : Fin m) : rC p (pre ++ [x]) = BJ (rC p pre) (jR p x) := by simp [rC]
theorem X9 {m k : Nat} (h : k < m) : (List.finRange m).take (k + 1) = (List.finRange m).take k ++ [⟨k, h⟩] := by
 rw [List.take_succ_eq_append_getElem (by simpa using h)]
 simp
theorem dS (m : Nat) : (List.finRange m).take m = List.finRange m := List.take_of_length_le (by simp)
theorem AM {m : Nat} (p : List UInt8) : ∀ k, k ≤ m → rC p ((List.finRange m).take k) = mO p k
 | 0, _ => by simp [rC, mO]
 | k + 1, h => by rw [X9 ow, AL, AM p k ow, mO]
theorem zhQ (p : List UInt8) (m : Nat) : rC p (List.finRange m) = mO p m := by rw [← dS, AM p m (Nat.le_refl _)]
def nD (s : List W) (k : Nat) : List UInt8 := (gO s).take (4 * k) ++ List.replicate (32 - 4 * k) 0
theorem dB {s : List W} (h : s.length = 8) {k : Nat} (hk : k ≤ 8) : (nD s k).length = 32 := by simp [nD, Z4, h]; omega
theorem zfC (s : List W) : e9 (nD s 0) = List.replicate 32 (.int .u8 0) := by simp [nD, e9]
theorem zhh {s : List W} (h : s.length = 8) : nD s 8 = gO s := by
 simp [nD]
 exact List.take_of_length_le (by rw [Z4, h]; exact Nat.le_refl _)
theorem zfA (s : List W) : ∀ {k : Nat}, k < s.length → (gO s).take (4 * (k + 1)) = (gO s).take (4 * k) ++ w4 (s.getD k 0) := by
 induction s with
 | nil => intro k h; simp at h
 | cons x s ih =>
  intro k h
  have e : gO (x :: s) = w4 x ++ gO s := rfl
  have hl : (w4 x).length = 4 := rfl
  rw [e]
  cases k with
  | zero => simp [List.take_append, hl, List.getD]
  | succ k =>
   have := ih (k := k) (by simpa using h)
   rw [List.take_append, List.take_append, hl, List.take_of_length_le (l := w4 x) (i := 4 * (k + 1 + 1)) (by rw [hl]; omega), List.take_of_length_le (l := w4 x) (i := 4 * (k + 1)) (by rw [hl]; omega)]
   rw [show 4 * (k + 1 + 1) - 4 = 4 * (k + 1) by omega, show 4 * (k + 1) - 4 = 4 * k by omega, this, List.append_assoc]
   rfl
theorem zfB {s : List W} (h : s.length = 8) {k : Nat} (hk : k < 8) :
  (e9 (nD s k)).take (4 * k) ++ e9 (w4 (s.getD k 0)) ++ (e9 (nD s k)).drop (4 * k + (e9 (w4 (s.getD k 0))).length) = e9 (nD s (k + 1)) := by
 have hl : (e9 (w4 (s.getD k 0))).length = 4 := by rw [o3]; rfl
 have ht : ((gO s).take (4 * k)).length = 4 * k := by rw [List.length_take, Z4, h]; omega
 rw [hl, kD, kC, ← H5, ← H5]
 congr 1
 rw [nD, nD, zfA s ow, List.take_append, List.drop_append, ht, Nat.sub_self, List.take_zero, List.append_nil, List.take_take, Nat.min_self, List.drop_eq_nil_of_le (by rw [ht]; omega), List.nil_append, show 4 * k + 4 - 4 * k = 4 by omega, List.drop_replicate, show 32 - 4 * k - 4 = 32 - 4 * (k + 1) by omega]
def qQ (s : List W) (k : Nat) : List UInt8 := (gO s).take k ++ List.replicate (32 - k) 0
theorem dC {s : List W} (h : s.length = 8) {k : Nat} (hk : k ≤ 32) : (qQ s k).length = 32 := by simp [qQ, Z4, h]; omega
theorem zfD (s : List W) : e9 (qQ s 0) = List.replicate 32 (.int .u8 0) := by simp [qQ, e9]
theorem zhi {s : List W} (h : s.length = 8) : qQ s 32 = gO s := by
 simp [qQ]
 exact List.take_of_length_le (by rw [Z4, h]; exact Nat.le_refl _)
theorem zhj {s : List W} (h : s.length = 8) {k : Nat} (hk : k < 32) : (qQ s k).set k (UInt8.ofNat ((s.getD (k / 4) 0) >>> (24 - 8 * (k % 4))).toNat) = qQ s (k + 1) := by
 have hl : k < (gO s).length := by rw [Z4, h]; omega
 have ht : ((gO s).take k).length = k := by rw [List.length_take]; omega
 rw [← zfz s (by rw [h]; omega)]
 have h1 := xJ ((gO s).take k) (32 - k) (0 : UInt8) ((gO s).getD k 0) ow
 rw [ht] at h1
 rw [qQ, h1, qQ, List.take_succ_eq_append_getElem hl, show 32 - k - 1 = 32 - (k + 1) by omega]
 simp [List.getD, hl]
/-! the document's loops -/
def FH (bl : List UInt8) (o : Nat) : Nat → W
 | 0 => 0
 | i + 1 => FH bl o i * 256 + BitVec.ofNat 32 (bl.getD (o + i) 0).toNat
theorem zi2 (bl : List UInt8) (o : Nat) : FH bl o 4 = lA bl o := by rw [zbK]; rfl
theorem zf0 (bl : List UInt8) {k : Nat} (h : k < 64) : (R3 bl k).getD k 0 = 0 := by
 have hl := W3 bl k
 simp only [R3, List.getD]
 rw [List.getElem?_append_right ow, hl, Nat.sub_self, List.getElem?_replicate]
 simp [show 0 < 64 - k by omega]
theorem zbF (bl : List UInt8) {k : Nat} (h : k < 64) (o : Nat) : (R3 bl k).set k (FH bl o 0) = R3 bl k := by
 have hl : k < (R3 bl k).length := by rw [C0 bl ow]; exact h
 have := zf0 bl h
 refine List.ext_getElem (by simp) fun i h1 h2 => ?_
 rw [List.getElem_set]
 split
 ·rename_i e; subst e
  simp [List.getD, hl] at this
  rw [this]; rfl
 ·rfl
theorem zhI {α : Type} (l : List α) (k : Nat) (x d : α) (h : k < l.length) : (l.set k x).getD k d = x := by simp [List.getD, h]
theorem zhJ {α : Type} (l : List α) (k : Nat) (x y : α) : (l.set k x).set k y = l.set k y := List.set_set ..
theorem zcU (bl : List UInt8) {k : Nat} (h : k < 16) : (R3 bl k).set k (FH bl (4 * k) 4) = R3 bl (k + 1) :=
 jP bl ow _ (by rw [zi2, wD, if_pos h])
theorem zd3 (r s : List W) : mJ r s = mJ s r := by simp only [mJ, BitVec.add_comm]
end Go.E
namespace Go.E
def x5 (h : Nat) (l r : i6) : List UInt8 := [2, UInt8.ofNat h] ++ l.1 ++ r.1
def F8 (h : Nat) (l r : i6) : i6 := K3 (x5 h l r)
def mY : Nat → i6
 | 0 => K3 [0]
 | h + 1 => F8 (h + 1) (mY h) (mY h)
def s5 (f : Nat → i6) : Nat → Nat → i6
 | 0, p => f p
 | l + 1, p => F8 (l + 1) (s5 f l (2 * p)) (s5 f l (2 * p + 1))
theorem fY {f g : Nat → i6} : ∀ (l p : Nat), (∀ i, i / 2 ^ l = p → f i = g i) → s5 f l p = s5 g l p
 | 0, p, h => h p (by simp)
 | l + 1, p, h => by
  have e : ∀ i, i / 2 ^ (l + 1) = i / 2 ^ l / 2 := fun i => by rw [Nat.pow_succ, Nat.div_div_eq_div_mul]
  rw [s5, s5, fY l (2 * p) fun i hi => h i (by rw [e, hi]; omega), fY l (2 * p + 1) fun i hi => h i (by rw [e, hi]; omega)]
theorem sH {E : Nat → i6} (hE : ∀ h, E (h + 1) = F8 (h + 1) (E h) (E h)) {f : Nat → i6} (l p : Nat) (h : ∀ i, i / 2 ^ l = p → f i = E 0) : s5 f l p = E l := by
 induction l generalizing p with
 | zero => exact h p (by simp)
 | succ l ih =>
  have e : ∀ i, i / 2 ^ (l + 1) = i / 2 ^ l / 2 := fun i => by rw [Nat.pow_succ, Nat.div_div_eq_div_mul]
  rw [s5, hE, ih (2 * p) fun i hi => h i (by rw [e, hi]; omega), ih (2 * p + 1) fun i hi => h i (by rw [e, hi]; omega)]
abbrev Tm := List ((Nat × Nat) × i6)
def s4 (E : Nat → i6) (ms : Tm) (a : Nat × Nat) : i6 := (look a ms).getD (E a.1)
def wT (E : Nat → i6) (ms : Tm) (a : Nat × Nat) (h : i6) : Tm := if h = E a.1 then Y9 a ms else gQ a h ms
theorem wU {E : Nat → i6} {ms : Tm} (hn : (o9 ms).Nodup) (a : Nat × Nat) (h : i6) : (o9 (wT E ms a h)).Nodup := by
 unfold wT; split
 ·exact iD a hn
 ·exact lQ a h hn
theorem DM {E : Nat → i6} {ms : Tm} (hn : (o9 ms).Nodup) (a b : Nat × Nat) (h : i6) : s4 E (wT E ms a h) b = if b = a then h else s4 E ms b := by
 unfold s4 wT
 by_cases he : h = E a.1
 ·rw [if_pos he, kI a b hn]
  by_cases hb : b = a
  ·subst hb; simp [he]
  ·simp [hb]
 ·rw [if_neg he, pE a b h ms]
  by_cases hb : b = a
  ·subst hb; simp
  ·simp [hb]
def N0 (gh : Nat) (a : Nat × Nat) : Prop := a.1 ≤ gh ∧ a.2 < 2 ^ (gh - a.1)
instance (gh : Nat) (a : Nat × Nat) : Decidable (N0 gh a) := inferInstanceAs (Decidable (_ ∧ _))
structure TreeOk (E : Nat → i6) (gh : Nat) (f : Nat → i6) (ms : Tm) : Prop where
 nodup : (o9 ms).Nodup
 get : ∀ a, N0 gh a → s4 E ms a = s5 f a.1 a.2
 keys : ∀ a h, look a ms = some h → N0 gh a ∧ h ≠ E a.1
def CJ (f : Nat → i6) (i : Nat) (h : i6) : Nat → i6 := fun j => if j = i then h else f j
def mG (E : Nat → i6) (ms : Tm) (i : Nat) (h : i6) : Nat → Tm
 | 0 => wT E ms (0, i) h
 | l + 1 => wT E (mG E ms i h l) (l + 1, i / 2 ^ (l + 1)) (F8 (l + 1) (s4 E (mG E ms i h l) (l, 2 * (i / 2 ^ (l + 1)))) (s4 E (mG E ms i h l) (l, 2 * (i / 2 ^ (l + 1)) + 1)))
theorem eR {i gh l : Nat} (hi : i < 2 ^ gh) (hl : l ≤ gh) : i / 2 ^ l < 2 ^ (gh - l) := by
 rw [Nat.div_lt_iff_lt_mul (Nat.two_pow_pos l), ← Nat.pow_add]
 rwa [show gh - l + l = gh by omega]
theorem iF {gh l : Nat} (h : l < gh) : 2 ^ (gh - l) = 2 * 2 ^ (gh - (l + 1)) := by
 rw [show gh - l = gh - (l + 1) + 1 by omega, Nat.pow_succ, Nat.mul_comm]
theorem oA {E : Nat → i6} (hE : ∀ h, E (h + 1) = F8 (h + 1) (E h) (E h)) (gh : Nat) : TreeOk E gh (fun _ => E 0) [] where
 nodup := List.nodup_nil
 get a _ := by rw [sH hE _ _ fun _ _ => rfl]; rfl
 keys a h hl := by cases hl
structure SetOk (E : Nat → i6) (gh : Nat) (f f' : Nat → i6) (l : Nat) (ms : Tm) : Prop where
 nodup : (o9 ms).Nodup
 get : ∀ a, N0 gh a → s4 E ms a = if a.1 ≤ l then s5 f' a.1 a.2 else s5 f a.1 a.2
 keys : ∀ a h, look a ms = some h → N0 gh a ∧ h ≠ E a.1
theorem zR {E : Nat → i6} {gh : Nat} {ms : Tm} (hn : (o9 ms).Nodup) (hk : ∀ a h, look a ms = some h → N0 gh a ∧ h ≠ E a.1) {b : Nat × Nat} (hb : N0 gh b) (x : i6) :
  ∀ a h, look a (wT E ms b x) = some h → N0 gh a ∧ h ≠ E a.1 := fun a h hl => by
 unfold wT at hl
 by_cases he : x = E b.1
 ·rw [if_pos he, kI b a hn] at hl
  split at hl
  ·cases hl
  ·exact hk a h hl
 ·rw [if_neg he, pE b a x ms] at hl
  split at hl
  ·rename_i hab; subst hab
   injection hl with hl
   subst hl
   exact ⟨hb, he⟩
  ·exact hk a h hl
theorem HM {E : Nat → i6} {gh : Nat} {f : Nat → i6} {ms : Tm} (ht : TreeOk E gh f ms) {i : Nat} (hi : i < 2 ^ gh) (h : i6) : ∀ l, l ≤ gh → SetOk E gh f (CJ f i h) l (mG E ms i h l)
 | 0, _ => by
  refine ⟨wU ht.nodup _ _, fun a ha => ?_, zR ht.nodup ht.keys ⟨Nat.zero_le _, by simpa using hi⟩ h⟩
  obtain ⟨l, p⟩ := a
  rw [mG, DM ht.nodup]
  by_cases he : (l, p) = (0, i)
  ·rw [if_pos he]
   injection he with h1 h2
   subst h1; subst h2
   simp [s5, CJ]
  ·rw [if_neg he, ht.get _ ha]
   by_cases h0 : l ≤ 0
   ·obtain rfl : l = 0 := by omega
    have hp : p ≠ i := fun hp => he (by rw [hp])
    simp [s5, CJ, hp]
   ·simp [h0]
 | l + 1, hl => by
  have ih := HM ht hi h l ow
  have hq : i / 2 ^ (l + 1) < 2 ^ (gh - (l + 1)) := eR hi hl
  have hs := iF (show l < gh by omega)
  refine ⟨wU ih.nodup _ _, fun a ha => ?_, zR ih.nodup ih.keys ⟨hl, hq⟩ _⟩
  obtain ⟨l', p⟩ := a
  rw [mG, DM ih.nodup]
  by_cases he : (l', p) = (l + 1, i / 2 ^ (l + 1))
  ·rw [if_pos he]
   injection he with h1 h2
   subst h1; subst h2
   rw [ih.get _ ⟨by show l ≤ gh; omega, by show 2 * (i / 2 ^ (l + 1)) < 2 ^ (gh - l); omega⟩, ih.get _ ⟨by show l ≤ gh; omega, by show 2 * (i / 2 ^ (l + 1)) + 1 < 2 ^ (gh - l); omega⟩]
   simp [s5]
  ·rw [if_neg he, ih.get _ ha]
   by_cases h0 : l' ≤ l
   ·simp [h0, show l' ≤ l + 1 by omega]
   ·by_cases h1 : l' = l + 1
    ·subst h1
     have hp : p ≠ i / 2 ^ (l + 1) := fun hp => he (by rw [hp])
     simp only [Nat.le_refl, if_true, show ¬ l + 1 ≤ l by omega, if_false]
     refine fY _ _ fun j hj => ?_
     have : j ≠ i := fun e => hp (by rw [← hj, e])
     simp [CJ, this]
    ·simp [h0, show ¬ l' ≤ l + 1 by omega]
theorem TreeOk.set {E : Nat → i6} {gh : Nat} {f : Nat → i6} {ms : Tm} (ht : TreeOk E gh f ms) {i : Nat} (hi : i < 2 ^ gh) (h : i6) : TreeOk E gh (CJ f i h) (mG E ms i h gh) :=
 have k := HM ht hi h gh (Nat.le_refl _)
 ⟨k.nodup, fun a ha => by rw [k.get a ha, if_pos ha.1], k.keys⟩
def gA (f : Nat → i6) (gh i : Nat) : List i6 := (List.range gh).map fun l => s5 f l ((i / 2 ^ l) ^^^ 1)
theorem uF (n : Nat) : n ^^^ 1 = if n % 2 = 0 then n + 1 else n - 1 := by
 apply Nat.eq_of_testBit_eq
 intro j
 rw [Nat.testBit_xor]
 cases j with
 | zero =>
  simp only [Nat.testBit_zero]
  rcases Nat.mod_two_eq_zero_or_one n with h | h
  ·rw [if_pos h]; simp [h, show (n + 1) % 2 = 1 by omega]
  ·rw [if_neg ow]; simp [h, show (n - 1) % 2 = 0 by omega]
 | succ j =>
  simp only [Nat.testBit_succ]
  have : 1 / 2 = 0 := rfl
  split
  ·rw [show (n + 1) / 2 = n / 2 by omega]; simp
  ·rw [show (n - 1) / 2 = n / 2 by omega]; simp
/-! numbers as bytes; hashes in blocks -/
def H7 (n s : Nat) : List UInt8 := (List.range s).map fun i => UInt8.ofNat (n / 2 ^ (8 * (s - 1 - i)))
theorem D8 (n s : Nat) : (H7 n s).length = s := by simp [H7]
theorem zK (n : Nat) {s i : Nat} (h : i < s) : (H7 n s).take (i + 1) = (H7 n s).take i ++ [UInt8.ofNat (n / 2 ^ (8 * (s - 1 - i)))] := by
 rw [List.take_succ_eq_append_getElem (by rw [D8]; exact h)]
 simp [H7]
theorem DY (n s : Nat) : (H7 n s).take s = H7 n s := List.take_of_length_le (by rw [D8]; exact Nat.le_refl _)
theorem DZ (n : Nat) : H7 n 1 = [UInt8.ofNat n] := by simp [H7]
theorem EA (bs : List UInt8) (n : Nat) {s i : Nat} (h : i < s) : e9 (bs ++ (H7 n s).take i) ++ e9 [UInt8.ofNat (n / 2 ^ (8 * (s - 1 - i)))] = e9 (bs ++ (H7 n s).take (i + 1)) := by
 rw [← H5, zK n h, List.append_assoc]
theorem GY (bs : List UInt8) (n : Nat) {s i : Nat} (h : i < s) : (bs ++ (H7 n s).take (i + 1)).length = (bs ++ (H7 n s).take i).length + 1 := by
 rw [zK n h, ← List.append_assoc, List.length_append]; rfl
theorem BO (l : List i6) : (vl (.agg (m9 l).toArray)).all (·.oneCell') = true := List.all_eq_true.2 (lK l)
theorem L9 (h : Nat) (l r : i6) : (x5 h l r).length = 66 := by simp [x5, l.2, r.2]
variable {C : Ctx} {env : Env} {L : List Assn}
theorem gR {b : Nat} {T T' : TypeId} {x : i6} (h : Has C L (Blk b T' (L8 x))) (hT : kU C.P T = true) (hs : (C.P.info? T).map (·.size) = some 32) : Ld C L (some ⟨b, 0, none⟩) T (hv x) :=
 i4 h hT (by rw [l6]; exact hs)
theorem uJ {b o : Nat} {T T' : TypeId} {l : List i6} (h : Has C L (Blk b T' (m9 l))) (i : Nat) (hT : kU C.P T = true) (hs : (C.P.info? T).map (·.size) = some 32) (hi : i < l.length) (ho : o = i * 32) : Ld C L (some ⟨b, o, none⟩) T (hv (l.getD i e7)) :=
 Q0 h hT (by rw [l6]; exact hs) (FS hi ho)
theorem E4 {A : y8} {k : Nat} {T : TypeId} {l : List i6} (h : Has C L (SlA A (m9 l))) (i : Nat) (hT : kU C.P T = true) (hs : (C.P.info? T).map (·.size) = some 32) (hi : i < l.length) (hk : k = i * 32) : Ld C L (A.map (·.add k)) T (hv (l.getD i e7)) :=
 H4 h hT (by rw [l6]; exact hs) (by rw [l6]; decide) (FS hi hk)
theorem o5 {P : Program} {T : TypeId} {x : i6} (hs : (P.info? T).map (·.size) = some 32) : (P.info? T).map (·.size) = some (vl (hv x)).length := by rw [mQ, l6]; exact hs
theorem N7 (x : i6) : (vl (hv x)).all (·.oneCell') = true := by rw [mQ]; exact Y4 x
theorem v9 (x : i6) : (vl (hv x)).length = 32 := by rw [mQ, l6]
theorem GQ : ∀ (l : List i6) (i : Nat) (x : i6), i < l.length → (m9 l).take (i * 32) ++ vl (hv x) ++ (m9 l).drop (i * 32 + (vl (hv x)).length) = m9 (l.set i x) := by
 intro l i x h
 rw [v9, mQ, oQ, show i * 32 + 32 = (i + 1) * 32 by omega, oP, List.set_eq_take_append_cons_drop, if_pos h, M3, N6, List.append_assoc]
def cA (E : Nat → i6) (k : Nat) : List i6 := (List.range k).map E ++ List.replicate (33 - k) e7
theorem P7 (E : Nat → i6) {k : Nat} (h : k ≤ 33) : (cA E k).length = 33 := by simp [cA]; omega
theorem yX (E : Nat → i6) {k i : Nat} (h : i < k) : (cA E k).getD i e7 = E i := by
 simp [cA, List.getD, List.getElem?_append_left, h]
theorem zeW (E : Nat → i6) {k : Nat} (h : k < 33) : (cA E k).set k (E k) = cA E (k + 1) := by
 have h1 := xJ ((List.range k).map E) (33 - k) e7 (E k) ow
 rw [List.length_map, List.length_range] at h1
 rw [cA, h1, cA, List.range_succ, List.map_append, show 33 - k - 1 = 33 - (k + 1) by omega]
 rfl
def H3 (E : Nat → i6) : List i6 := (List.range 33).map E
theorem zeU (E : Nat → i6) : cA E 33 = H3 E := by simp [cA, H3]
theorem T5 (E : Nat → i6) : (H3 E).length = 33 := by simp [H3]
theorem qD (E : Nat → i6) {i : Nat} (h : i < 33) : (H3 E).getD i e7 = E i := by simp [H3, List.getD, h]
theorem zaI (n : Nat) : m9 (List.replicate n e7) = List.replicate (n * 32) (.int .u8 0) := by
 induction n with
 | zero => rfl
 | succ n ih =>
  rw [List.replicate_succ, N6, ih, show (n + 1) * 32 = 32 + n * 32 by omega, ← List.replicate_append_replicate]
  rfl
theorem zeV (E : Nat → i6) : m9 (cA E 1) = L8 (E 0) ++ List.replicate (32 * 32) (.int .u8 0) := by
 have : cA E 1 = E 0 :: List.replicate 32 e7 := by simp [cA]
 rw [this, N6, zaI]
theorem wX (E : Nat → i6) {k i : Nat} (h : i < k) : ((List.range k).map E).getD i e7 = E i := by simp [List.getD, h]
theorem zd4 (E : Nat → i6) : m9 ((List.range 1).map E) = vl (hv (E 0)) := by rw [mQ]; simp [m9]
theorem zcO (E : Nat → i6) (k : Nat) : m9 ((List.range k).map E) ++ L8 (E k) = m9 ((List.range (k + 1)).map E) := by
 rw [List.range_succ, List.map_append, M3]; simp [m9]
end Go.E
namespace Go.E
section wide
variable {C : Ctx} {Q : EQ} {env : Env} {L : List Assn} {ops : Array Oper} {rest : List Oper} {d : Nat} {op : Op} {ty : TypeId} {po : String} {af : Array Edge} {v : Value} {gd : Nat × Bool} {x y : Operand} {E : List Nat × List Nat} {F : List Assn} {dn : List Nat}
theorem S.q1 (hy : Qt C L ⟨some d, op, ty, po, af, none⟩ env v) (hd : Nat.blt d C.n = true) (hnd : q8 ⟨some d, op, ty, po, af, none⟩ = false) (k : TL C ops Q rest (env.put d v) L) : TL C ops Q (⟨some d, op, ty, po, af, none⟩ :: rest) env L := LY hd hnd hy k
theorem S.q2 (hw : A3 ops env ⟨some d, op, ty, po, af, some gd⟩ = true) (hy : Qt C L ⟨some d, op, ty, po, af, some gd⟩ env v) (hd : Nat.blt d C.n = true) (hnd : q8 ⟨some d, op, ty, po, af, some gd⟩ = false) (k : TL C ops Q rest (env.put d v) L) : TL C ops Q (⟨some d, op, ty, po, af, some gd⟩ :: rest) env L := E8 hw hd hnd hy k
theorem S.al {T : TypeId} {zs : List Value} (hz : E3 C.P T = some zs) (hd : Nat.blt d C.n = true) (k : ∀ b, TL C ops Q rest (env.put d (.pointer (some ⟨b, 0, none⟩))) (Blk b T zs :: L)) : TL C ops Q (⟨some d, .alloc T, ty, po, af, none⟩ :: rest) env L := CY hd rfl (z4 hz k)
theorem S.bx {T : TypeId} (hx : env.ev x = v) (hd : Nat.blt d C.n = true) (k : ∀ b, TL C ops Q rest (env.put d (.pointer (some ⟨b, 0, none⟩))) (Blk b T (vl v) :: L)) : TL C ops Q (⟨some d, .box T x, ty, po, af, none⟩ :: rest) env L := CY hd rfl (iR hx k)
theorem sb {A B : List Assn} (h : Sub A B := by first | ((repeat (first | exact Sub.nil _ | exact Sub.refl _ | with_reducible refine Sub.keep _ ?_ | refine Sub.drop _ ?_)); done) | (dsimp only [List.cons_append, List.nil_append]; repeat (first | exact Sub.nil _ | exact Sub.refl _ | with_reducible refine Sub.keep _ ?_ | refine Sub.drop _ ?_))) : Sub A B := h
theorem G0 {A B : List Assn} {G : Prop} (k : G) (h : Sub A B := by exact sb) : Sub A B ∧ G := ⟨h, k⟩
theorem K8 {mods : List Nat} {env e : Env} (h : Out mods env e := by first | (repeat (first | exact Out.refl _ _ | with_reducible refine Out.put ?_ ?_; exact rfl | with_reducible refine U3 ?_ ?_; exact rfl | with_reducible refine Out.scr ?_ | refine X4 ?_ ?_; exact rfl)); done | (repeat (first | exact Out.refl _ _ | refine Out.put rfl ?_ | refine U3 rfl ?_ | refine Out.scr ?_ | refine X4 rfl ?_))) : Out mods env e := h
theorem hs {A : Assn} (h : Has C L A := by first | exact s6 0 rfl | exact s6 1 rfl | exact s6 2 rfl | exact s6 3 rfl | exact s6 4 rfl | exact s6 5 rfl | exact s6 6 rfl | exact s6 7 rfl | exact s6 8 rfl | exact s6 9 rfl | exact s6 10 rfl | exact s6 11 rfl | exact c9 (by assumption)) : Has C L A := h
theorem ldA {A : y8} {T : TypeId} (h : Ld C L A T v := by first
 | ((with_reducible apply i9); exact hs; exact oT; (conv => lhs; whnf))
 | ((with_reducible apply gR); exact hs; exact rT; exact cT)) : Ld C L A T v := h
def IA {α : Type} : List α → Nat → Option α
 | [], _ => none
 | a :: _, 0 => some a
 | _ :: l, i + 1 => IA l i
theorem GT {α : Type} : ∀ (l : List α) (i : Nat), IA l i = l[i]?
 | [], i => by simp [IA]
 | a :: l, 0 => by simp [IA]
 | a :: l, i + 1 => by simp [IA, GT l i]
theorem zex {dst : Option Tmp} {gj : Option (Nat × Bool)} {T : TypeId} {fs : Array Field} {f : Field} {i b o sz : Nat} (hT : C.P.underlying T = some (.struct fs)) (hf : IA fs.toList i = some f) (hs : (C.P.info? f.type).map (·.size) = some (sz + 1)) (hx : env.ev x = .pointer (some ⟨b, o, none⟩)) :
  Qt C L ⟨dst, .fieldAddr T x i, ty, po, af, gj⟩ env (.pointer (some ⟨b, o + f.offset, none⟩)) := x9 hT (by rw [GT] at hf; simpa using hf) hs hx
theorem qt {o : Oper} (h : Qt C L o env v := by first
 | ((with_reducible apply m8); (conv => lhs; whnf))
 | ((with_reducible apply G9); (conv => lhs; whnf))
 | ((with_reducible apply s8); exact rfl; exact rfl)
 | ((with_reducible apply gT); exact rfl; (conv => lhs; whnf))
 | ((with_reducible apply X7); exact rfl; (conv => lhs; whnf))
 | ((with_reducible apply uO); exact rfl)
 | ((with_reducible apply uN); exact rfl)
 | ((with_reducible apply D6); exact uT; exact rfl)
 | ((with_reducible apply a8); exact rfl; exact ldA)
 | ((with_reducible apply zex); exact uT; (conv => lhs; whnf); exact cT; exact rfl)
 | ((with_reducible apply F0); exact uT; exact rfl)
 | ((with_reducible apply zap); exact uT; exact rfl)
 | ((with_reducible apply za2); exact uT; exact rfl)
 | ((with_reducible apply zan); exact uT; exact rfl)
 | ((with_reducible apply fO); exact uT; exact rfl)
 | ((with_reducible apply zbZ); exact uT; exact rfl)
 | ((with_reducible apply zb2); exact uT; exact rfl)
 | ((with_reducible apply zb1); exact uT; exact rfl)
 | ((with_reducible apply H8); exact rfl)
 | ((with_reducible apply zag); exact uT; exact (fun _ h => nomatch h); (conv => lhs; whnf))
 | ((with_reducible apply n7 (i := 0)); exact uT; exact cT; exact rfl; exact rfl; decide)
 | ((with_reducible apply n7 (i := 1)); exact uT; exact cT; exact rfl; exact rfl; decide)
 | ((with_reducible apply v4 (b := 1)); exact rfl; exact rfl; (simp only [H1]; omega))) : Qt C L o env v := h
def G6 (ops : Array Oper) (E : List Nat × List Nat) (dn : List Nat) (k : Nat) : Bool := Nat.blt k ops.size && (!has dn k && (!has E.1 k && (!has E.2 k && R0 ops dn k)))
theorem nk {ops : Array Oper} {E : List Nat × List Nat} {dn : List Nat} {k : Nat} (h : G6 ops E dn k = true := by first | (show G6 _ _ _ 0 = true; decide +kernel) | (show G6 _ _ _ 1 = true; decide +kernel) | (show G6 _ _ _ 2 = true; decide +kernel) | (show G6 _ _ _ 3 = true; decide +kernel) | (show G6 _ _ _ 4 = true; decide +kernel) | (show G6 _ _ _ 5 = true; decide +kernel) | (show G6 _ _ _ 6 = true; decide +kernel) | (show G6 _ _ _ 7 = true; decide +kernel) | (show G6 _ _ _ 8 = true; decide +kernel) | (show G6 _ _ _ 9 = true; decide +kernel) | (show G6 _ _ _ 10 = true; decide +kernel) | (show G6 _ _ _ 11 = true; decide +kernel) | (show G6 _ _ _ 12 = true; decide +kernel) | (show G6 _ _ _ 13 = true; decide +kernel) | (show G6 _ _ _ 14 = true; decide +kernel) | (show G6 _ _ _ 15 = true; decide +kernel) | (show G6 _ _ _ 16 = true; decide +kernel) | (show G6 _ _ _ 17 = true; decide +kernel) | (show G6 _ _ _ 18 = true; decide +kernel) | (show G6 _ _ _ 19 = true; decide +kernel) | (show G6 _ _ _ 20 = true; decide +kernel) | (show G6 _ _ _ 21 = true; decide +kernel) | (show G6 _ _ _ 22 = true; decide +kernel) | (show G6 _ _ _ 23 = true; decide +kernel) | (show G6 _ _ _ 24 = true; decide +kernel) | (show G6 _ _ _ 25 = true; decide +kernel) | (show G6 _ _ _ 26 = true; decide +kernel) | (show G6 _ _ _ 27 = true; decide +kernel) | (show G6 _ _ _ 28 = true; decide +kernel) | (show G6 _ _ _ 29 = true; decide +kernel) | (show G6 _ _ _ 30 = true; decide +kernel) | (show G6 _ _ _ 31 = true; decide +kernel) | (show G6 _ _ _ 32 = true; decide +kernel) | (show G6 _ _ _ 33 = true; decide +kernel) | (show G6 _ _ _ 34 = true; decide +kernel) | (show G6 _ _ _ 35 = true; decide +kernel) | (show G6 _ _ _ 36 = true; decide +kernel) | (show G6 _ _ _ 37 = true; decide +kernel) | (show G6 _ _ _ 38 = true; decide +kernel) | (show G6 _ _ _ 39 = true; decide +kernel) | (show G6 _ _ _ 40 = true; decide +kernel) | (show G6 _ _ _ 41 = true; decide +kernel) | (show G6 _ _ _ 42 = true; decide +kernel) | (show G6 _ _ _ 43 = true; decide +kernel) | (show G6 _ _ _ 44 = true; decide +kernel) | (show G6 _ _ _ 45 = true; decide +kernel) | (show G6 _ _ _ 46 = true; decide +kernel) | (show G6 _ _ _ 47 = true; decide +kernel)) : G6 ops E dn k = true := h
theorem D.n2 {k : Nat} (hn : G6 ops E dn k = true) (ho : ops[k]? = some ⟨some d, op, ty, po, af, none⟩) (hy : Qt C L ⟨some d, op, ty, po, af, none⟩ env v) (hk : (R0 ops dn k && F4 ops ⟨some d, op, ty, po, af, none⟩) = true) (hE : has E.1 k = false ∧ has E.2 k = false)
  (hsel : H6 ops = true) (hc : eO ops E dn k = true) (hd : Nat.blt d C.n = true) (hnd : q8 ⟨some d, op, ty, po, af, none⟩ = false) (h : AWl C ops Q E F (k :: dn) (env.put d v) L) : AWl C ops Q E F dn env L := JS ho hk hsel hc hd hnd hy h hE
theorem D.n3 {k : Nat} (hn : G6 ops E dn k = true) (ho : ops[k]? = some ⟨some d, op, ty, po, af, some gd⟩) (hw : A3 ops env ⟨some d, op, ty, po, af, some gd⟩ = true) (hy : Qt C L ⟨some d, op, ty, po, af, some gd⟩ env v) (hk : (R0 ops dn k && F4 ops ⟨some d, op, ty, po, af, some gd⟩) = true) (hE : has E.1 k = false ∧ has E.2 k = false)
  (hsel : H6 ops = true) (hc : eO ops E dn k = true) (hd : Nat.blt d C.n = true) (hnd : q8 ⟨some d, op, ty, po, af, some gd⟩ = false) (h : AWl C ops Q E F (k :: dn) (env.put d v) L) : AWl C ops Q E F dn env L := GA ho hk hsel hc hd hnd hw hy h hE
theorem D.n4 {k : Nat} (hn : G6 ops E dn k = true) (ho : ops[k]? = some ⟨some d, op, ty, po, af, some gd⟩) (hw : A3 ops env ⟨some d, op, ty, po, af, some gd⟩ = false) (hk : (R0 ops dn k && F4 ops ⟨some d, op, ty, po, af, some gd⟩) = true)
  (hsel : H6 ops = true) (hd : Nat.blt d C.n = true) (hnd : q8 ⟨some d, op, ty, po, af, some gd⟩ = false) (h : AWl C ops Q E F (k :: dn) (env.put d undef) L) : AWl C ops Q E F dn env L := IG ho hk hsel hd hnd hw h
theorem D.n5 {k : Nat} (hn : G6 ops E dn k = true) (ho : ops[k]? = some ⟨some d, op, ty, po, af, none⟩) (hy : Qt C F ⟨some d, op, ty, po, af, none⟩ env v) (hk : (R0 ops dn k && F4 ops ⟨some d, op, ty, po, af, none⟩) = true) (hE : has E.1 k = false ∧ has E.2 k = false)
  (hsel : H6 ops = true) (hd : Nat.blt d C.n = true) (hnd : q8 ⟨some d, op, ty, po, af, none⟩ = false) (h : AWl C ops Q E F (k :: dn) (env.put d v) L) : AWl C ops Q E F dn env L := LL ho hk hsel hd hnd hy h hE
structure Hid (R : Prop) : Prop where
 out : R
theorem gw {R G : Prop} (k : R) (h : Hid R → G := by intro h; (repeat first
 | with_reducible refine KX ?_ | with_reducible refine c8 ?_ | with_reducible refine c7 ?_ | with_reducible refine l3 ?_ | with_reducible refine C5 ?_ | with_reducible refine KF ?_ | with_reducible refine w8 ?_
 | ((with_reducible apply S.q1); exact qt; exact rfl; exact rfl)
 | ((with_reducible apply S.al); exact zT; exact rfl)
 | ((with_reducible apply S.bx); (conv => lhs; whnf); exact rfl)
 | ((with_reducible refine IM ?_ ?_ ?_); exact rfl; exact rfl)
 | ((with_reducible apply S.q2); exact rfl; exact qt; exact rfl; exact rfl)
 | ((with_reducible refine Q3 ?_ ?_); exact rfl) | ((with_reducible refine C4 ?_ ?_); exact rfl)
 | ((with_reducible apply D.n2); exact nk; exact rfl; exact qt; kernel_rfl; exact ⟨rfl, rfl⟩; kernel_rfl; decide +kernel; exact rfl; exact rfl)
 | ((with_reducible apply D.n4); exact nk; exact rfl; exact rfl; kernel_rfl; kernel_rfl; exact rfl; exact rfl)
 | ((with_reducible apply D.n3); exact nk; exact rfl; exact rfl; exact qt; kernel_rfl; exact ⟨rfl, rfl⟩; kernel_rfl; decide +kernel; exact rfl; exact rfl)
 | ((with_reducible apply D.n5); exact nk; exact rfl; exact qt; kernel_rfl; exact ⟨rfl, rfl⟩; kernel_rfl; exact rfl; exact rfl)); exact h.out) : G := h ⟨k⟩
end wide
end Go.E
