/- Sealed blocks, items and their leaves' texts; unlike items whose leaves are alike. -/
import Derived.Test.YtgdjcmehlhebdaaGreatDoorY7
set_option maxHeartbeats 25600000
set_option linter.all false
namespace Go.E
def KT := { l : List UInt8 // l.length = 16 }
instance : DecidableEq KT := fun a b => decidable_of_iff (a.1 = b.1) ⟨Subtype.ext, fun h => by rw [h]⟩
structure Sealed where
 ep : Nat
 lt : ep < 18446744073709551616
 data : i6
 tag : KT
def A4 : Sealed := ⟨0, by decide, e7, ⟨List.replicate 16 0, by simp⟩⟩
def o4 (x : Sealed) : List Value := .int .u64 (x.ep : Int) :: (L8 x.data ++ e9 x.tag.1)
theorem k9 (x : Sealed) : (o4 x).length = 49 := by simp [o4, l6, o3, x.tag.2]
structure Item where
 there : Bool
 s : Sealed
def u9 (x : Item) : List Value := .bool x.there :: o4 x.s
theorem m0 (x : Item) : (u9 x).length = 50 := by rw [u9, List.length_cons, k9]
def mF (x : Sealed) : List UInt8 := H7 x.ep 8 ++ x.data.1 ++ x.tag.1
def R6 (i : Nat) (x : Sealed) : List UInt8 := H7 1 1 ++ H7 i 4 ++ mF x
def H9 (i : Nat) (x : Item) : List UInt8 := if x.there = true then R6 i x.s else [0]
theorem R8 (x : Sealed) : (mF x).length = 56 := by simp [mF, D8, x.data.2, x.tag.2]
theorem bR (i : Nat) (x : Sealed) : (R6 i x).length = 61 := by simp [R6, D8, R8]
def z8 : Item := ⟨false, A4⟩
def vT (xs : List Nat) (l : List Item) : List (List UInt8) := (List.range xs.length).map fun i => H9 (xs.getD i 0) (l.getD i z8)
theorem lL (xs : List Nat) (l : List Item) : (vT xs l).length = xs.length := by simp [vT]
theorem jO {P : Program} {w : World} {e : TypeId} {off n : Nat} {xs : List Value} (h : kU P e = true) (hs : (P.info? e).map (·.size) = some n) :
  (part e xs.toArray off).run P w = .ok (.agg ((xs.drop off).take n).toArray) w := by
 obtain ⟨i, hi, h1⟩ := Option.map_eq_some_iff.1 hs
 have hc : P.cellsOf e = n := by simp [Program.cellsOf, hi, h1]
 have ha := mM (P := P) (T := e) (w := w) h
 have hz := run_sizeOf (P := P) w hi
 simp [part, ha, hz, hc, List.extract]
theorem zeF {n : Nat} {xs ys : List UInt8} (h1 : xs.length = n) (h2 : ys.length = n) : ((List.range n).all fun i => decide (xs.getD i 0 = ys.getD i 0)) = decide (xs = ys) := by
 rw [Bool.eq_iff_iff]
 simp only [List.all_eq_true, List.mem_range, decide_eq_true_eq]
 constructor
 ·intro h
  refine List.ext_getElem ow fun i h3 h4 => ?_
  have := h i ow
  simpa [List.getD, h3, h4] using this
 ·rintro rfl i _; rfl
theorem sA {P : Program} {w : World} {T e : TypeId} {n : Nat} {xs ys : List UInt8} (hx : xs.length = n) (hy : ys.length = n) (ht : P.underlying T = some (.array n e)) (he : P.underlying e = some (.int .u8)) (hs : (P.info? e).map (·.size) = some 1) (d : Nat) :
  (Op.equalIn (d + 2) T (.agg (e9 xs).toArray) (.agg (e9 ys).toArray)).run P w = .ok (decide (xs = ys)) w := by
 obtain ⟨i, hi, h1⟩ := Option.map_eq_some_iff.1 hs
 have hc : P.cellsOf e = 1 := by simp [Program.cellsOf, hi, h1]
 have := fA (P := P) (w := w) d he xs ys (List.range n) (fun i h => by rw [hx, hy]; simpa using h)
 rw [run_equalIn_array w (d + 1) _ _ ht hi, hc, this, zeF hx hy]
instance : DecidableEq Sealed := fun a b => decidable_of_iff (a.ep = b.ep ∧ a.data = b.data ∧ a.tag = b.tag) ⟨fun ⟨h1, h2, h3⟩ => by cases a; cases b; simp_all, fun h => by rw [h]; exact ⟨rfl, rfl, rfl⟩⟩
instance : DecidableEq Item := fun a b => decidable_of_iff (a.there = b.there ∧ a.s = b.s) ⟨fun ⟨h1, h2⟩ => by cases a; cases b; simp_all, fun h => by rw [h]; exact ⟨rfl, rfl⟩⟩
def IP (P : Program) (T : TypeId) : Prop := ∃ f0 f1 f2 e, P.underlying T = some (.struct #[f0, f1, f2]) ∧ P.stoodInHeld T = false ∧ (f0.name ≠ "_" ∧ f1.name ≠ "_" ∧ f2.name ≠ "_") ∧ (f0.offset = 0 ∧ f1.offset = 1 ∧ f2.offset = 33) ∧
 P.underlying f0.type = some (.int .u64) ∧ P.underlying f1.type = some (.array 32 e) ∧ P.underlying f2.type = some (.array 16 e) ∧ P.underlying e = some (.int .u8) ∧ (P.info? e).map (·.size) = some 1 ∧
 (kU P f1.type = true ∧ kU P f2.type = true) ∧ (P.info? f1.type).map (·.size) = some 32 ∧ (P.info? f2.type).map (·.size) = some 16
theorem xI (x : Sealed) : ((o4 x).drop 1).take 32 = e9 x.data.1 := by
 show ((L8 x.data ++ e9 x.tag.1)).take 32 = _
 rw [List.take_append_of_le_length (by rw [l6]; exact Nat.le_refl _)]
 exact List.take_of_length_le (by rw [l6]; exact Nat.le_refl _)
theorem AD (x : Sealed) : ((o4 x).drop 33).take 16 = e9 x.tag.1 := by
 show ((L8 x.data ++ e9 x.tag.1).drop 32).take 16 = _
 rw [List.drop_append_of_le_length (by rw [l6]; exact Nat.le_refl _), List.drop_of_length_le (by rw [l6]; exact Nat.le_refl _), List.nil_append]
 exact List.take_of_length_le (by rw [o3, x.tag.2]; exact Nat.le_refl _)
theorem zbf {P : Program} {w : World} {T : TypeId} (h : IP P T) (x y : Sealed) (d : Nat) :
  (Op.equalIn (d + 4) T (.agg (o4 x).toArray) (.agg (o4 y).toArray)).run P w = .ok (decide (x = y)) w := by
 obtain ⟨f0, f1, f2, e, hT, hs, ⟨n0, n1, n2⟩, ⟨o0, o1, o2⟩, t0, t1, t2, te, se, ⟨r1, r2⟩, s1, s2⟩ := h
 have hf : P.fieldsOf T = #[f0, f1, f2] := by simp [Program.fieldsOf, hT]
 have hp : P.plainKey f0.type = true := by simp [Program.plainKey, t0]
 have a0 : ∀ z : Sealed, (part f0.type (o4 z).toArray 0).run P w = .ok (.int .u64 (z.ep : Int)) w := fun z => run_part_plain (P := P) w hp (by simp [o4])
 have a1 : ∀ z : Sealed, (part f1.type (o4 z).toArray 1).run P w = .ok (.agg (e9 z.data.1).toArray) w := fun z => by rw [jO r1 s1, xI]
 have a2 : ∀ z : Sealed, (part f2.type (o4 z).toArray 33).run P w = .ok (.agg (e9 z.tag.1).toArray) w := fun z => by rw [jO r2 s2, AD]
 have e0 := kE (P := P) (w := w) (k := .u64) (a := (x.ep : Int)) (b := (y.ep : Int)) t0 (d + 2)
 have e1 := sA (P := P) (w := w) x.data.2 y.data.2 t1 te se (d + 1)
 have e2 := sA (P := P) (w := w) x.tag.2 y.tag.2 t2 te se (d + 1)
 rw [run_equalIn_struct w (d + 3) T _ _ (by rw [hf]; exact hT) hs, hf]
 simp only [Op.eqFields, n0, n1, n2, o0, o1, o2, ne_eq, not_false_eq_true, if_true, Sem.run_bind, Sem.run_ite, Sem.run_pure, a0, a1, a2, e0, e1, e2, Result.andThen_ok]
 have hx : (x = y) ↔ (x.ep = y.ep ∧ x.data.1 = y.data.1 ∧ x.tag.1 = y.tag.1) := ⟨fun h => by rw [h]; exact ⟨rfl, rfl, rfl⟩, fun ⟨q1, q2, q3⟩ => by
  have q4 : x.data = y.data := Subtype.ext q2
  have q5 : x.tag = y.tag := Subtype.ext q3
  cases x; cases y; simp only at q1 q4 q5; subst q1; subst q4; subst q5; rfl⟩
 by_cases c0 : x.ep = y.ep
 ·by_cases c1 : x.data.1 = y.data.1
  ·by_cases c2 : x.tag.1 = y.tag.1
   ·have : decide (x = y) = true := decide_eq_true (hx.2 ⟨c0, c1, c2⟩)
    simp [c0, c1, c2, this]
   ·have : decide (x = y) = false := decide_eq_false fun h => c2 (hx.1 h).2.2
    simp [c0, c1, c2, this]
  ·have : decide (x = y) = false := decide_eq_false fun h => c1 (hx.1 h).2.1
   simp [c0, c1, this]
 ·have : decide (x = y) = false := decide_eq_false fun h => c0 (hx.1 h).1
  have c : ¬ ((x.ep : Int) = (y.ep : Int)) := fun h => c0 ow
  have cb : (((x.ep : Int)) == ((y.ep : Int))) = false := by rw [beq_eq_false_iff_ne]; exact c
  simp [cb, this]
def IH (P : Program) (T : TypeId) : Prop := ∃ f0 f1, P.underlying T = some (.struct #[f0, f1]) ∧ P.stoodInHeld T = false ∧ (f0.name ≠ "_" ∧ f1.name ≠ "_") ∧ (f0.offset = 0 ∧ f1.offset = 1) ∧ P.underlying f0.type = some .bool ∧ IP P f1.type ∧ kU P f1.type = true ∧ (P.info? f1.type).map (·.size) = some 49
theorem zbd {P : Program} {w : World} {T : TypeId} (h : IH P T) (x y : Item) (d : Nat) :
  (Op.equalIn (d + 5) T (.agg (u9 x).toArray) (.agg (u9 y).toArray)).run P w = .ok (decide (x = y)) w := by
 obtain ⟨f0, f1, hT, hs, ⟨n0, n1⟩, ⟨o0, o1⟩, t0, t1, r1, s1⟩ := h
 have hf : P.fieldsOf T = #[f0, f1] := by simp [Program.fieldsOf, hT]
 have hp : P.plainKey f0.type = true := by simp [Program.plainKey, t0]
 have a0 : ∀ z : Item, (part f0.type (u9 z).toArray 0).run P w = .ok (.bool z.there) w := fun z => run_part_plain (P := P) w hp (by simp [u9])
 have a1 : ∀ z : Item, (part f1.type (u9 z).toArray 1).run P w = .ok (.agg (o4 z.s).toArray) w := fun z => by
  rw [jO r1 s1]
  show Result.ok (Value.agg ((o4 z.s).take 49).toArray) w = _
  rw [List.take_of_length_le (by rw [k9]; exact Nat.le_refl _)]
 have e0 := run_equalIn_bool (P := P) w (d + 3) f0.type x.there y.there t0
 have e1 := zbf (P := P) (w := w) t1 x.s y.s d
 rw [run_equalIn_struct w (d + 4) T _ _ (by rw [hf]; exact hT) hs, hf]
 simp only [Op.eqFields, n0, n1, o0, o1, ne_eq, not_false_eq_true, if_true, Sem.run_bind, Sem.run_ite, Sem.run_pure, a0, a1, e0, e1, Result.andThen_ok]
 have hx : (x = y) ↔ (x.there = y.there ∧ x.s = y.s) := ⟨fun h => by rw [h]; exact ⟨rfl, rfl⟩, fun ⟨q1, q2⟩ => by cases x; cases y; simp_all⟩
 by_cases c0 : x.there = y.there
 ·by_cases c1 : x.s = y.s
  ·have : decide (x = y) = true := decide_eq_true (hx.2 ⟨c0, c1⟩)
   simp [c0, c1, this]
  ·have : decide (x = y) = false := decide_eq_false fun h => c1 (hx.1 h).2
   simp [c0, c1, this]
 ·have : decide (x = y) = false := decide_eq_false fun h => c0 (hx.1 h).1
  have cb : (x.there == y.there) = false := by rw [beq_eq_false_iff_ne]; exact c0
  simp [cb, this]
section
variable {C : Ctx} {env : Env} {L : List Assn} {dst : Option Tmp} {ty ty2 : TypeId} {po : String} {af : Array Edge} {gj : Option (Nat × Bool)} {x y : Operand} {T : TypeId}
theorem zez {a b : Item} (hm : C.P.eqGuardType C.P.depth T = false) (ht : IH C.P T) (hx : env.ev x = .agg (u9 a).toArray) (hy : env.ev y = .agg (u9 b).toArray) : Qt C L ⟨dst, .binOp .neq T x y ty2, ty, po, af, gj⟩ env (.bool (decide (a ≠ b))) := fun w _ => by
 have h := zbd (P := C.P) (w := w) ht a b 9995
 have h2 : (binOp .neq T (.agg (u9 a).toArray) (.agg (u9 b).toArray)).run C.P w = .ok (.bool (decide (a ≠ b))) w := by
  rw [run_neq_struct, h]; simp
 have h3 : (eqGuard .neq T x y (.agg (u9 a).toArray) (.agg (u9 b).toArray)).run C.P w = .ok () w := run_eqGuard_agg w .neq T x y _ _ hm
 simp [execOp, hx, hy, h2, h3]
end
def isN (xs : List Nat) (i : Nat) : Bool := decide (i = 0 ∨ xs.getD i 0 ≠ xs.getD (i - 1) 0)
def ddF (xs : List Nat) (m : Nat) : List Nat := ((List.range m).filter (isN xs)).map fun i => xs.getD i 0
def dd (xs : List Nat) : List Nat := ddF xs xs.length
theorem zgb {xs : List Nat} {k : Nat} (h : k < xs.length) : xs.take (k + 1) = xs.take k ++ [xs.getD k 0] := by
 rw [List.take_succ_eq_append_getElem h]; simp [List.getD, h]
theorem zjZ {ys : List Nat} (hs : ys.Pairwise (· ≤ ·)) {i j : Nat} (hij : i ≤ j) (hj : j < ys.length) : ys.getD i 0 ≤ ys.getD j 0 := by
 rcases Nat.eq_or_lt_of_le hij with rfl | h
 ·exact Nat.le_refl _
 ·have := List.pairwise_iff_getElem.1 hs i j ow hj h
  rwa [show ys.getD i 0 = ys[i] by simp [List.getD, show i < ys.length by omega], show ys.getD j 0 = ys[j] by simp [List.getD, hj]]
theorem FV (xs : List Nat) : (JQ xs).Pairwise (· ≤ ·) := by
 have h := List.pairwise_mergeSort (le := fun x y => !v5 y x) (fun a b c => by simp only [v5, Bool.not_eq_true', decide_eq_false_iff_not]; omega) (fun a b => by simp only [v5, Bool.or_eq_true, Bool.not_eq_true', decide_eq_false_iff_not]; omega) xs
 exact h.imp fun {a b} h => by simp only [v5, Bool.not_eq_true', decide_eq_false_iff_not] at h; omega
theorem iK (xs : List Nat) : (JQ xs).Perm xs := List.mergeSort_perm xs _
theorem ziZ {xs : List Nat} {x : Nat} : x ∈ JQ xs ↔ x ∈ xs := (iK xs).mem_iff
theorem qP : ∀ {a b : List Nat}, a.Nodup → (∀ x ∈ a, x ∈ b) → a.length ≤ b.length
 | [], b, _, _ => Nat.zero_le _
 | x :: a, b, h, hs => by
  obtain ⟨h1, h2⟩ := List.nodup_cons.1 h
  have hx := hs x (List.mem_cons_self ..)
  have := qP (b := b.erase x) h2 fun y hy => (List.mem_erase_of_ne (fun e => h1 (by rw [← e]; exact hy))).2 (hs y (List.mem_cons_of_mem _ hy))
  rw [List.length_erase_of_mem hx] at this
  have := List.length_pos_of_mem hx
  rw [List.length_cons]; omega
def iA (ks : List (Nat × Nat)) : List Nat := (ks.filter fun a => a.1 == 0).map (·.2)
theorem pG (ks : List (Nat × Nat)) (a : Nat × Nat) : iA (ks ++ [a]) = if a.1 = 0 then iA ks ++ [a.2] else iA ks := by
 unfold iA
 rw [List.filter_append, List.map_append]
 by_cases h : a.1 = 0 <;> simp [h]
theorem BQ {ks : List (Nat × Nat)} {p : Nat} : p ∈ iA ks ↔ (0, p) ∈ ks := by
 unfold iA
 rw [List.mem_map]
 constructor
 ·rintro ⟨⟨l, q⟩, h, rfl⟩
  obtain ⟨h1, h2⟩ := List.mem_filter.1 h
  obtain rfl : l = 0 := by simpa using h2
  exact h1
 ·exact fun h => ⟨(0, p), List.mem_filter.2 ⟨h, rfl⟩, rfl⟩
theorem zI {ks : List (Nat × Nat)} (h : ks.Nodup) : (iA ks).Nodup := by
 unfold iA
 refine List.pairwise_map.2 (List.Pairwise.imp_of_mem (fun {a b} ha hb hne => ?_) (List.Pairwise.filter (fun a : Nat × Nat => a.1 == 0) h))
 have a1 := (List.mem_filter.1 ha).2
 have a2 := (List.mem_filter.1 hb).2
 have b1 : a.1 = 0 := by simpa using a1
 have b2 : b.1 = 0 := by simpa using a2
 exact fun e => hne (Prod.ext (by rw [b1, b2]) e)
def fX (ms : Tm) : List Nat := JQ (iA (o9 ms))
theorem zjr {ms : Tm} {ks : List (Nat × Nat)} (h : ks.Perm (o9 ms)) : JQ (iA ks) = fX ms := by
 have hp : (iA ks).Perm (iA (o9 ms)) := (h.filter _).map _
 have h1 := ((iK (iA ks)).trans hp).trans (iK (iA (o9 ms))).symm
 exact h1.eq_of_pairwise (fun a b _ _ h1 h2 => Nat.le_antisymm h1 h2) (FV _) (FV _)
theorem ziy {ms : Tm} {p : Nat} : p ∈ fX ms ↔ ∃ h, look (0, p) ms = some h := by
 rw [fX, ziZ, BQ]
 cases e : look (0, p) ms with
 | none => exact ⟨fun h => absurd h (P3.1 e), fun ⟨h, k⟩ => by cases k⟩
 | some v => exact ⟨fun _ => ⟨v, rfl⟩, fun _ => Decidable.not_not.1 fun k => by rw [P3.2 k] at e; cases e⟩
theorem DU {ms : Tm} (hn : (o9 ms).Nodup) : (fX ms).Pairwise (· < ·) := by
 have h1 : (fX ms).Nodup := (iK _).nodup_iff.2 (zI hn)
 exact (FV _).imp₂ (fun a b h1 h2 => Nat.lt_of_le_of_ne h1 h2) h1
theorem TreeOk.lv {E : Nat → i6} {gh : Nat} {f : Nat → i6} {ms : Tm} (ht : TreeOk E gh f ms) {p : Nat} : p ∈ fX ms ↔ p < 2 ^ gh ∧ f p ≠ E 0 := by
 rw [ziy]
 constructor
 ·rintro ⟨h, e⟩
  obtain ⟨h1, h2⟩ := ht.keys _ _ e
  have h3 : p < 2 ^ gh := by have := h1.2; simpa using this
  refine ⟨h3, ?_⟩
  have := ht.get (0, p) (JE h3)
  rw [xW E ms _ e] at this
  have h4 : h = f p := this
  rw [← h4]; exact h2
 ·rintro ⟨h1, h2⟩
  cases e : look (0, p) ms with
  | some v => exact ⟨v, rfl⟩
  | none =>
   have := ht.get (0, p) (JE h1)
   rw [xX E ms _ e] at this
   exact absurd this.symm h2
theorem TreeOk.leafv {E : Nat → i6} {gh : Nat} {f : Nat → i6} {ms : Tm} (ht : TreeOk E gh f ms) {p : Nat} (h : p < 2 ^ gh) : s4 E ms (0, p) = f p := ht.get (0, p) (JE h)
def tJ (E : Nat → i6) (g : Nat → i6) (vs : List Nat) (b : Nat) : Nat → i6 := fun p => if p ∈ vs ∧ p < b then g p else E 0
def mP (E : Nat → i6) (g : Nat → i6) (vs : List Nat) : Nat → i6 := fun p => if p ∈ vs then g p else E 0
theorem zga (E : Nat → i6) (g : Nat → i6) : mP E g [] = fun _ => E 0 := funext fun p => if_neg (by simp)
theorem zep (E : Nat → i6) (g : Nat → i6) (vs : List Nat) (x : Nat) : CJ (mP E g vs) x (g x) = mP E g (vs ++ [x]) := funext fun p => by
 unfold CJ mP
 by_cases h : p = x
 ·subst h; simp
 ·simp [h]
theorem zf8 (E : Nat → i6) (g : Nat → i6) {vs : List Nat} {b : Nat} (h : ∀ x ∈ vs, x < b) : mP E g vs = tJ E g vs b := funext fun p => by
 unfold mP tJ
 by_cases hp : p ∈ vs
 ·simp [hp, h p hp]
 ·simp [hp]
theorem zf9 (E : Nat → i6) (g : Nat → i6) {pre : List Nat} {vs : List Nat} {b k : Nat} (hs : vs.Pairwise (· < ·)) (hk : k < vs.length) (hp : pre = vs.take k) (h1 : ∀ x ∈ pre, x < b) (h2 : b ≤ vs.getD k 0) : mP E g pre = tJ E g vs b := funext fun p => by
 subst hp
 unfold mP tJ
 have e : p ∈ vs.take k ↔ p ∈ vs ∧ p < b := by
  constructor
  ·exact fun h => ⟨List.mem_of_mem_take h, h1 p h⟩
  ·rintro ⟨h, hb⟩
   obtain ⟨j, hj, rfl⟩ := List.mem_iff_getElem.1 h
   rcases Nat.lt_or_ge j k with h3 | h3
   ·exact List.mem_take_iff_getElem.2 ⟨j, by omega, rfl⟩
   ·exfalso
    have := zjZ (hs.imp fun {a b} h => Nat.le_of_lt h) h3 hj
    rw [show vs.getD j 0 = vs[j] by simp [List.getD, hj]] at this
    omega
 by_cases h : p ∈ vs.take k
 ·rw [if_pos h, if_pos (e.1 h)]
 ·rw [if_neg h, if_neg fun q => h (e.2 q)]
theorem zii {E : Nat → i6} {gh : Nat} {g : Nat → i6} {ms : Tm} (ht : TreeOk E gh g ms) {b p : Nat} (h1 : p < 2 ^ gh) (h2 : p < b) : tJ E g (fX ms) b p = g p := by
 unfold tJ
 by_cases h : p ∈ fX ms
 ·rw [if_pos ⟨h, h2⟩]
 ·rw [if_neg fun k => h k.1]
  exact (Decidable.not_not.1 fun k => h (ht.lv.2 ⟨h1, k⟩)).symm
theorem DD {E : Nat → i6} {gh : Nat} {g : Nat → i6} {ms : Tm} (ht : TreeOk E gh g ms) {b p : Nat} (h : 2 ^ gh ≤ p ∨ b ≤ p) : tJ E g (fX ms) b p = E 0 := by
 unfold tJ
 refine if_neg fun k => ?_
 have := (ht.lv.1 k.1).1
 have := k.2
 omega
structure Order where
 kind : Int
 xs : List Nat
 ss : List Sealed
 blocks : Nat
def mE (e : Nat) : Prop := 1 ≤ e ∧ e < 18446744073709551615
instance (e : Nat) : Decidable (mE e) := inferInstanceAs (Decidable (_ ∧ _))
def A7 (o : Order) : Prop := (o.kind = 1 ∧ o.blocks = 0 ∧ idxOk 32 o.xs ∧ o.ss.length = o.xs.length ∧ ∀ s ∈ o.ss, mE s.ep ∧ s.ep = (o.ss.getD 0 A4).ep) ∨ (o.kind = 2 ∧ o.blocks = 0 ∧ idxOk 32 o.xs ∧ o.ss.length = 0) ∨ (o.kind = 3 ∧ o.xs.length = 0 ∧ o.ss.length = 0 ∧ fE o.blocks)
instance (o : Order) : Decidable (A7 o) := inferInstanceAs (Decidable (_ ∨ _ ∨ _))
def T6 (o : Order) (blocks : Nat) : Prop := A7 o ∧ ∀ x ∈ o.xs, x < blocks
instance (o : Order) (b : Nat) : Decidable (T6 o b) := inferInstanceAs (Decidable (_ ∧ _))
theorem K2 (ss : List Sealed) : (ss.flatMap o4).length = ss.length * 49 := by
 induction ss with
 | nil => rfl
 | cons t ts ih => rw [List.flatMap_cons, List.length_append, ih, k9, List.length_cons]; omega
theorem X6 {ss : List Sealed} {k i : Nat} (h : k < ss.length) (hi : i = k * 49) : ∀ j v, (o4 (ss.getD k A4))[j]? = some v → (ss.flatMap o4)[i + j]? = some v := fun j v hj => by
 subst hi
 exact aW (encL := o4) (sz := 49) k9 ss k _ (getD_some A4 h) j v hj
theorem aF (x : Sealed) : (o4 x).all (·.oneCell') = true := by
 refine List.all_eq_true.2 fun u hu => ?_
 rcases List.mem_cons.1 hu with rfl | hu
 ·rfl
 ·rcases List.mem_append.1 hu with hu | hu
  ·exact r9 x.data.1 u hu
  ·exact r9 x.tag.1 u hu
def sv (x : Sealed) : Value := .agg (o4 x).toArray
theorem AE {ss : List Sealed} {k : Nat} (h : k < ss.length) : ss.getD k A4 ∈ ss := by
 rw [show ss.getD k A4 = ss[k] by simp [List.getD, h]]; exact List.getElem_mem h
def BS (ss : List Sealed) (x : Sealed) : Bool := decide (¬ mE x.ep ∨ x.ep ≠ (ss.getD 0 A4).ep)
theorem ziP {k : Int} {xs : List Nat} {ss : List Sealed} {b : Nat} (h1 : k = 1) (h2 : b = 0) (h3 : idxOk 32 xs) (h4 : ss.length = xs.length) (h5 : ∀ s ∈ ss, BS ss s = false) : A7 ⟨k, xs, ss, b⟩ := by
 refine .inl ⟨h1, h2, h3, h4, fun s hs => ?_⟩
 have := of_decide_eq_false (h5 s hs)
 exact ⟨Decidable.byContradiction fun h => this (.inl h), Decidable.byContradiction fun h => this (.inr h)⟩
theorem zfO {k : Int} {xs : List Nat} {ss : List Sealed} {b : Nat} (h1 : k = 1) (h5 : ∃ s ∈ ss, BS ss s = true) : ¬ A7 ⟨k, xs, ss, b⟩ := by
 rintro (⟨a, b, c, d, e⟩ | ⟨a, _⟩ | ⟨a, _⟩)
 ·obtain ⟨s, hs, ho⟩ := h5
  rcases of_decide_eq_true ho with h | h
  ·exact h (e s hs).1
  ·exact h (e s hs).2
 ·have : k = 2 := a; omega
 ·have : k = 3 := a; omega
def G3 (A : y8) (c : Nat) (B : y8) (d : Nat) (o : Order) : List Value := [.int .i64 o.kind, .slice A o.xs.length c, .slice B o.ss.length d, .int .u64 (o.blocks : Int)]
def gD (leaf : Nat → i6) (node : Nat × Nat → i6) (path : Nat → List i6) (n : Nat) (o : Order) (err : Int) (pa pb : List i6) : List Pr :=
 if err ≠ 0 ∨ ¬ T6 o n then [] else if o.kind ≠ 3 then D4 (I3 (s7 n : Int) o.xs (o.xs.map leaf) ((l7 (s7 n) o.xs 0).map node)) (I3 (s7 n : Int) o.xs pa pb)
 else if o.blocks < n ∧ pa.length = 1 then D4 (S6 (leaf (o.blocks - 1)) (o.blocks - 1) (path (o.blocks - 1))) (S6 (pa.getD 0 e7) (o.blocks - 1) pb) else []
theorem ze0 {o : Order} {n : Nat} (h : T6 o n) (hk : o.kind ≠ 3) : idxOk 32 o.xs := by
 rcases h.1 with ⟨_, _, c, _⟩ | ⟨_, _, c, _⟩ | ⟨a, _⟩
 ·exact c
 ·exact c
 ·exact absurd a hk
theorem gZ {o : Order} {n : Nat} (hn : fE n) (h : T6 o n) (hk : o.kind ≠ 3) : idxOk (s7 n) o.xs := by
 have h1 := ze0 h hk
 refine ⟨h1.1, h1.2.1, fun j hj => ⟨?_, (h1.2.2 j hj).2⟩⟩
 have := h.2 _ (E6 0 hj)
 have := gK hn
 omega
theorem N5 {o : Order} {n : Nat} (h : T6 o n) (hk : o.kind = 3) : fE o.blocks := by
 rcases h.1 with ⟨a, _⟩ | ⟨a, _⟩ | ⟨_, _, _, d⟩
 ·rw [hk] at a; exact absurd a (by decide)
 ·rw [hk] at a; exact absurd a (by decide)
 ·exact d
theorem bK {leaf : Nat → i6} {node : Nat × Nat → i6} {path : Nat → List i6} {n : Nat} {o : Order} {err : Int} {pa pb : List i6} (h : err ≠ 0 ∨ ¬ T6 o n) : gD leaf node path n o err pa pb = [] := if_pos h
theorem cL {leaf : Nat → i6} {node : Nat × Nat → i6} {path : Nat → List i6} {n : Nat} {o : Order} {err : Int} {pa pb : List i6} (h1 : ¬ err ≠ 0) (h2 : T6 o n) (h3 : o.kind ≠ 3) : gD leaf node path n o err pa pb = D4 (I3 (s7 n : Int) o.xs (o.xs.map leaf) ((l7 (s7 n) o.xs 0).map node)) (I3 (s7 n : Int) o.xs pa pb) := by
 rw [gD, if_neg (fun h => h.elim h1 (fun k => k h2)), if_pos h3]
theorem fB {leaf : Nat → i6} {node : Nat × Nat → i6} {path : Nat → List i6} {n : Nat} {o : Order} {err : Int} {pa pb : List i6} (h1 : ¬ err ≠ 0) (h2 : T6 o n) (h3 : ¬ o.kind ≠ 3) (h4 : o.blocks < n) (h5 : pa.length = 1) : gD leaf node path n o err pa pb = D4 (S6 (leaf (o.blocks - 1)) (o.blocks - 1) (path (o.blocks - 1))) (S6 (pa.getD 0 e7) (o.blocks - 1) pb) := by
 rw [gD, if_neg (fun h => h.elim h1 (fun k => k h2)), if_neg h3, if_pos ⟨h4, h5⟩]
theorem iL {leaf : Nat → i6} {node : Nat × Nat → i6} {path : Nat → List i6} {n : Nat} {o : Order} {err : Int} {pa pb : List i6} (h1 : ¬ err ≠ 0) (h2 : T6 o n) (h3 : ¬ o.kind ≠ 3) (h4 : ¬ (o.blocks < n ∧ pa.length = 1)) : gD leaf node path n o err pa pb = [] := by
 rw [gD, if_neg (fun h => h.elim h1 (fun k => k h2)), if_neg h3, if_neg h4]
theorem yK {C : Ctx} {env : Env} {L : List Assn} {T ty : TypeId} {dst : Option Tmp} {po : String} {af : Array Edge} {gj : Option (Nat × Bool)} {i j k : Nat} {x y z : Operand} {a b c v : Value} (hx : env.ev x = a) (hy : env.ev y = b) (hz : env.ev z = c)
  (h : ∀ w, (Instr.build T #[(i, a), (j, b), (k, c)]).run C.P w = .ok v w) : Qt C L ⟨dst, .build T #[(i, x), (j, y), (k, z)], ty, po, af, gj⟩ env v := C8 (ps := #[(i, a), (j, b), (k, c)]) (by simp [hx, hy, hz]) h
def HW (X : Option (List (List UInt8))) : Prop := ∀ xs, X = some xs → ∀ t ∈ xs, t.length ≤ 70368744177664
theorem EI (x : i6) (i : Nat) (ps : List i6) : HW (S6 x i ps) := fun xs h t ht => by
 unfold S6 at h
 split at h
 ·injection h with h
  subst h
  obtain ⟨k, _, rfl⟩ := List.mem_map.1 ht
  unfold mN
  split <;> (rw [L9]; decide)
 ·cases h
theorem pH (z : Int) (xs : List Nat) (ls bs : List i6) : HW (I3 z xs ls bs) := fun ys h t ht => by
 unfold I3 at h
 split at h
 ·injection h with h
  subst h
  unfold HR at ht
  split at ht
  ·rw [qA _ _ _ _ _ t ht]; decide
  ·rename_i g1 g2; exact absurd g1 g2
 ·cases h
theorem kQ {X1 X2 : Option (List (List UInt8))} (h1 : HW X1) (h2 : HW X2) : ∀ p ∈ D4 X1 X2, p.1.length ≤ 70368744177664 ∧ p.2.length ≤ 70368744177664 := fun p hp => by
 cases X1 with
 | none => cases hp
 | some a => cases X2 with
  | none => cases hp
  | some b =>
   have hp' : p ∈ yF a b := hp
   unfold yF at hp'
   split at hp'
   ·have := List.of_mem_zip (a := p.1) (b := p.2) hp'
    exact ⟨h1 a rfl _ this.1, h2 b rfl _ this.2⟩
   ·cases hp'
theorem tK {ps : List Px} {E : List Pr} (e : ps.map N9 = E) (h : ∀ p ∈ E, p.1.length ≤ 70368744177664 ∧ p.2.length ≤ 70368744177664) : PxLe ps := fun p hp => h (N9 p) (e ▸ List.mem_map_of_mem hp)
theorem PxRo.many {C : Ctx} {L Ls : List Assn} {ps : List Px} (h : Rd C L (C1 Ls)) (hm : ∀ p ∈ ps, u3 p.1 ∈ Ls ∧ u3 p.2 ∈ Ls) {w : World} (hw : St C.w0 C.M L w) : PxRo w [] ps := fun p hp =>
 ⟨Rd.own (e := 5) (sz := 1) (Rd.many h (hm p hp).1) w hw, Rd.own (e := 5) (sz := 1) (Rd.many h (hm p hp).2) w hw⟩
theorem CC (w : World) : Ro w [] (SlA none []) := ⟨fun j u hj => by simp at hj, fun b hb => by rw [bN] at hb; obtain ⟨x, hx, _⟩ := U9 hb; cases hx⟩
theorem za8 : T6 ⟨2, [0, 1], [], 0⟩ 2 := by decide
theorem zdf (leaf : Nat → i6) (node : Nat × Nat → i6) (path : Nat → List i6) : gD leaf node path 2 ⟨2, [0, 1], [], 0⟩ 0 [e7, e7] [] = [(x5 1 (leaf 0) (leaf 1), x5 1 e7 e7)] := by
 rw [cL (by decide) za8 (by decide)]
 have h2 : s7 2 = 1 := by decide
 rw [h2]
 have hi : idxOk 1 [0, 1] := by decide
 show D4 (I3 ((1 : Nat) : Int) [0, 1] _ _) (I3 ((1 : Nat) : Int) [0, 1] _ _) = _
 have hs : l7 1 [0, 1] 0 = [] := by decide
 show D4 (I3 ((1 : Nat) : Int) [0, 1] [leaf 0, leaf 1] ((l7 1 [0, 1] 0).map node)) (I3 ((1 : Nat) : Int) [0, 1] [e7, e7] []) = _
 rw [hs, uA (by decide) hi rfl (by rw [hs]; rfl), uA (by decide) hi rfl (by rw [hs]; rfl)]
 rfl
theorem zgF {a b : List Value} : ∀ j v, a[j]? = some v → (a ++ b)[0 + j]? = some v := fun j v h => by
 rw [Nat.zero_add, List.getElem?_append_left (List.getElem?_eq_some_iff.1 h).1]; exact h
theorem cC {a b : List Value} {n : Nat} (hn : a.length = n) : ∀ j v, b[j]? = some v → (a ++ b)[n + j]? = some v := fun j v h => by
 subst hn; rw [List.getElem?_append_right ow]; simpa using h
theorem CW {w : World} {M : List Nat} {b : Nat} {T : TypeId} {x : Sealed} (h : Ro w M (Blk b T (o4 x))) : Ro w M (SlA (some ⟨b, 1, none⟩) (e9 x.data.1)) := by
 have k := Ro.part (Ro.blk h) 1 32
 rw [xI] at k
 simpa [Q4] using k
theorem CX {w : World} {M : List Nat} {b : Nat} {T : TypeId} {x : Sealed} (h : Ro w M (Blk b T (o4 x))) : Ro w M (SlA (some ⟨b, 33, none⟩) (e9 x.tag.1)) := by
 have k := Ro.part (Ro.blk h) 33 16
 rw [AD] at k
 simpa [Q4] using k
def yB (n s k : Nat) : List Value := List.replicate (s - k) (.int .u8 0) ++ e9 ((H7 n s).drop (s - k))
theorem zeQ (n s : Nat) : yB n s 0 = List.replicate s (.int .u8 0) := by
 unfold yB
 rw [Nat.sub_zero, List.drop_of_length_le (by rw [D8]; exact Nat.le_refl _)]
 simp [e9]
theorem zgT (n s : Nat) : yB n s s = e9 (H7 n s) := by
 unfold yB
 rw [Nat.sub_self]; simp
theorem oI (n s k : Nat) (h : k ≤ s) : (yB n s k).length = s := by
 unfold yB
 rw [List.length_append, List.length_replicate, o3, List.length_drop, D8]; omega
theorem zfr {n s k : Nat} (h : k < s) : (H7 n s).drop (s - 1 - k) = UInt8.ofNat (n / 2 ^ (8 * k)) :: (H7 n s).drop (s - k) := by
 have hl : s - 1 - k < (H7 n s).length := by rw [D8]; omega
 rw [List.drop_eq_getElem_cons hl, show s - 1 - k + 1 = s - k by omega]
 congr 1
 simp only [H7, List.getElem_map, List.getElem_range]
 rw [show s - 1 - (s - 1 - k) = k by omega]
theorem zgU {n s k : Nat} (h : k < s) (u : UInt8) (hu : u = UInt8.ofNat (n / 2 ^ (8 * k))) : (yB n s k).set (s - 1 - k) (.int .u8 ((u.toNat : Nat) : Int)) = yB n s (k + 1) := by
 subst hu
 unfold yB
 rw [List.set_append_left _ _ (by rw [List.length_replicate]; omega)]
 rw [show s - (k + 1) = s - 1 - k by omega, zfr h]
 have : List.replicate (s - k) (Value.int .u8 0) = List.replicate (s - 1 - k) (.int .u8 0) ++ [.int .u8 0] := by
  rw [show s - k = (s - 1 - k) + 1 by omega, List.replicate_succ']
 rw [this, List.set_append_right _ _ (by rw [List.length_replicate]; exact Nat.le_refl _), List.length_replicate, Nat.sub_self]
 simp [e9]
theorem zgV (n k : Nat) : n / 2 ^ (8 * k) / 256 = n / 2 ^ (8 * (k + 1)) := by
 rw [Nat.div_div_eq_div_mul, Nat.mul_add, Nat.pow_add]
def M6 (xs : List Nat) (l : List Item) : Option (List (List UInt8)) := if l.length = xs.length ∧ ∀ x ∈ xs, x < 4294967296 then some (vT xs l) else none
theorem oV {xs : List Nat} {l : List Item} (h1 : l.length = xs.length) (h2 : ∀ x ∈ xs, x < 4294967296) : M6 xs l = some (vT xs l) := if_pos ⟨h1, h2⟩
theorem tX {xs : List Nat} {l : List Item} (h : ¬ (l.length = xs.length ∧ ∀ x ∈ xs, x < 4294967296)) : M6 xs l = none := if_neg h
theorem qL (i : Nat) (x : Item) : (H9 i x).length ≤ 61 := by
 unfold H9; split
 ·rw [bR]; exact Nat.le_refl _
 ·decide
theorem vS (xs : List Nat) (l : List Item) : HW (M6 xs l) := fun ys h t ht => by
 unfold M6 at h
 split at h
 ·injection h with h
  subst h
  obtain ⟨k, _, rfl⟩ := List.mem_map.1 ht
  have := qL (xs.getD k 0) (l.getD k z8)
  omega
 ·cases h
theorem Z9 (l : List Item) : (l.flatMap u9).length = l.length * 50 := by
 induction l with
 | nil => rfl
 | cons t ts ih => rw [List.flatMap_cons, List.length_append, ih, m0, List.length_cons]; omega
theorem bQ {l : List Item} {k i : Nat} (h : k < l.length) (hi : i = k * 50) : ∀ j v, (u9 (l.getD k z8))[j]? = some v → (l.flatMap u9)[i + j]? = some v := fun j v hj => by
 subst hi
 exact aW (encL := u9) (sz := 50) m0 l k _ (getD_some z8 h) j v hj
theorem Y1 (x : Item) : (u9 x).all (·.oneCell') = true := by
 rw [u9, List.all_cons, aF]; rfl
theorem cD (x : Item) : ∀ j v, (o4 x.s)[j]? = some v → (u9 x)[1 + j]? = some v := fun j v h => by
 rw [u9, Nat.add_comm 1 j, List.getElem?_cons_succ]; exact h
theorem zH {l : List Item} {k : Nat} (h : k < l.length) : (l.take (k + 1)).flatMap u9 = (l.take k).flatMap u9 ++ u9 (l.getD k z8) := by
 rw [List.take_succ_eq_append_getElem h, List.flatMap_append, show l.getD k z8 = l[k] by simp [List.getD, h]]; simp
def M8 (xs : List Nat) (l : List Item) (k : Nat) : List i6 := (List.range k).map fun i => K3 (H9 (xs.getD i 0) (l.getD i z8))
theorem zdL (xs : List Nat) (l : List Item) (k : Nat) : M8 xs l (k + 1) = M8 xs l k ++ [K3 (H9 (xs.getD k 0) (l.getD k z8))] := by
 rw [M8, List.range_succ, List.map_append]; rfl
theorem U7 (xs : List Nat) (l : List Item) (k : Nat) : (M8 xs l k).length = k := by simp [M8]
theorem zjF (m : Nat) : UInt8.ofNat (m % 256) = UInt8.ofNat m := by
 apply UInt8.toNat_inj.1
 simp [UInt8.toNat_ofNat']
section
variable {C : Ctx} {Q : EQ} {env : Env} {ops : Array Oper} {L : List Assn}
theorem TL.shutOwn {l : List Oper} {L0 L : List Assn} {e : TypeId} {sz g n c : Nat} {cs : List Value} (hl : cs.length = c * sz) (hn : n ≤ c) (hm : c ≤ maxLen) (s : L0.Perm (Blk g e cs :: L)) (h : TL C ops Q l env (OwnA e sz (some ⟨g, 0, none⟩) n c (cs.take (n * sz)) :: L)) : TL C ops Q l env L0 :=
 fun a w ha hw => h a w ha ((hw.perm s).shutOwn hl hn hm)
theorem zgu {b : Nat} {T : TypeId} {x : Sealed} (h : Rd C L (Blk b T (o4 x))) : Rd C L (SlA (some ⟨b, 1, none⟩) (e9 x.data.1)) := fun w hw => CW (h w hw)
theorem zgv {b : Nat} {T : TypeId} {x : Sealed} (h : Rd C L (Blk b T (o4 x))) : Rd C L (SlA (some ⟨b, 33, none⟩) (e9 x.tag.1)) := fun w hw => CX (h w hw)
end
section
variable {C : Ctx} {env : Env} {L : List Assn} {dst : Option Tmp} {ty : TypeId} {po : String} {af : Array Edge} {gj : Option (Nat × Bool)} {x y : Operand} {T e : TypeId}
end
def IY (xs : List Nat) (a b : List Item) (i : Nat) : Pr := (H9 (xs.getD i 0) (a.getD i z8), H9 (xs.getD i 0) (b.getD i z8))
theorem zfh {xs : List Nat} {a b : List Item} (h1 : a.length = xs.length) (h2 : b.length = xs.length) (h : ∀ x ∈ xs, x < 4294967296) : D4 (M6 xs a) (M6 xs b) = (List.range xs.length).map (IY xs a b) := by
 rw [oV h1 h, oV h2 h]
 show yF _ _ = _
 rw [HU (by rw [lL, lL])]
 unfold vT
 rw [List.zip_map']
 rfl
theorem nA {xs : List Nat} {a b : List Item} (h : ¬ (a.length = xs.length ∧ b.length = xs.length ∧ ∀ x ∈ xs, x < 4294967296)) : D4 (M6 xs a) (M6 xs b) = [] := by
 by_cases h1 : a.length = xs.length ∧ ∀ x ∈ xs, x < 4294967296
 ·rw [tX (l := b) (fun k => h ⟨h1.1, k.1, h1.2⟩)]
  cases M6 xs a <;> rfl
 ·rw [tX (l := a) h1]; rfl
theorem GV {xs : List Nat} {k : Nat} (hk : k = xs.length) (h : ∀ j, j < k → xs.getD j 0 < 4294967296) : ∀ x ∈ xs, x < 4294967296 := fun x hx => by
 subst hk
 obtain ⟨j, hj, rfl⟩ := List.mem_iff_getElem.1 hx
 have := h j hj
 simpa [List.getD, hj] using this
theorem bD (b : Bool) (x : Sealed) : [Value.bool b, .agg (o4 x).toArray].flatMap vl = u9 ⟨b, x⟩ := by
 show [Value.bool b] ++ (o4 x ++ []) = _
 rw [List.append_nil]; rfl
theorem zG (xs : List Nat) (l : List Item) (k : Nat) : m9 (M8 xs l (k + 1)) = m9 (M8 xs l k) ++ L8 (K3 (H9 (xs.getD k 0) (l.getD k z8))) := by
 rw [zdL]; simp [m9]
structure OrdA where
 A : y8
 c : Nat
 B : y8
 d : Nat
 o : Order
def M7 (x : OrdA) : List Value := G3 x.A x.c x.B x.d x.o
theorem R7 (x : OrdA) : (M7 x).length = 4 := rfl
theorem kO (x : OrdA) : (M7 x).all (·.oneCell') = true := rfl
structure OrdA.Ok (x : OrdA) (w : World) : Prop where
 cap : x.o.xs.length ≤ x.c
 low : ∀ i ∈ x.o.xs, i < 18446744073709551616
 blk : x.o.blocks < 18446744073709551616
 ro : Ro w [] (SlA x.A (w6 x.o.xs))
 rs : Ro w [] (SlA x.B (x.o.ss.flatMap o4))
def C6 : OrdA := ⟨none, 0, none, 0, ⟨0, [], [], 0⟩⟩
theorem wJ (os : List OrdA) : (os.flatMap M7).length = os.length * 4 := by
 induction os with
 | nil => rfl
 | cons t ts ih => rw [List.flatMap_cons, List.length_append, ih, R7, List.length_cons]; omega
theorem GZ {os : List OrdA} {k i : Nat} (h : k < os.length) (hi : i = k * 4) : ∀ j v, (M7 (os.getD k C6))[j]? = some v → (os.flatMap M7)[i + j]? = some v := fun j v hj => by
 subst hi
 exact aW (encL := M7) (sz := 4) R7 os k _ (getD_some C6 h) j v hj
theorem zhg (os : List OrdA) : ∀ u ∈ os.flatMap M7, u.oneCell' = true := fun u hu => by
 obtain ⟨a, _, h⟩ := List.mem_flatMap.1 hu
 exact List.all_eq_true.1 (kO a) u h
structure ReqA where
 rq : List Value
 kind : Int
 A : y8
 c : Nat
 xs : List Nat
 first : Nat
 many : Int
 len : rq.length = 28
 k1 : rq[1]? = some (.int .i64 kind)
 k2 : rq[2]? = some (.slice A xs.length c)
 k3 : rq[3]? = some (.int .u64 (first : Int))
 k4 : rq[4]? = some (.int .i64 many)
structure ReqA.Ok (q : ReqA) (w : World) : Prop where
 cap : q.xs.length ≤ q.c
 low : ∀ i ∈ q.xs, i < 18446744073709551616
 lt : q.first < 18446744073709551616
 lo : -9223372036854775808 ≤ q.many
 hi : q.many ≤ 9223372036854775807
 ro : Ro w [] (SlA q.A (w6 q.xs))
structure RepA where
 rs : List Value
 err : Int
 I : y8
 i : Nat
 its : List Item
 P : y8
 p : Nat
 pa : List i6
 Q : y8
 q : Nat
 pb : List i6
 len : rs.length = 29
 k2 : rs[2]? = some (.int .i64 err)
 k3 : rs[3]? = some (.slice I its.length i)
 k27 : rs[27]? = some (.slice P pa.length p)
 k28 : rs[28]? = some (.slice Q pb.length q)
structure RepA.Ok (r : RepA) (w : World) : Prop where
 capi : r.its.length ≤ r.i
 capp : r.pa.length ≤ r.p
 capq : r.pb.length ≤ r.q
 roi : Ro w [] (SlA r.I (r.its.flatMap u9))
 rop : Ro w [] (SlA r.P (m9 r.pa))
 roq : Ro w [] (SlA r.Q (m9 r.pb))
def oC (q : ReqA) (p : RepA) (x : OrdA) : List Value := q.rq ++ (p.rs ++ M7 x)
theorem rN (q : ReqA) (p : RepA) (x : OrdA) : (oC q p x).length = 61 := by rw [oC, List.length_append, List.length_append, q.len, p.len, R7]
theorem FQ (q : ReqA) (p : RepA) (x : OrdA) : ∀ j v, q.rq[j]? = some v → (oC q p x)[0 + j]? = some v := zgF
theorem pW (q : ReqA) (p : RepA) (x : OrdA) : ∀ j v, p.rs[j]? = some v → (oC q p x)[28 + j]? = some v := fun j v h => cC q.len j v (by rw [List.getElem?_append_left (List.getElem?_eq_some_iff.1 h).1]; exact h)
theorem BG (q : ReqA) (p : RepA) (x : OrdA) : ∀ j v, (M7 x)[j]? = some v → (oC q p x)[57 + j]? = some v := fun j v h => by
 have h2 : (p.rs ++ M7 x)[29 + j]? = some v := cC p.len j v h
 have h3 := cC (a := q.rq) q.len (29 + j) v h2
 rwa [← Nat.add_assoc] at h3
theorem tO (q : ReqA) (p : RepA) (x : OrdA) {j : Nat} {v : Value} (h : q.rq[j]? = some v) : (oC q p x)[j]? = some v := by
 have := FQ q p x j v h; rwa [Nat.zero_add] at this
def uQ (x : OrdA) : Prop := 12 < x.o.xs.length ∨ 12 < x.o.ss.length
instance (x : OrdA) : Decidable (uQ x) := inferInstanceAs (Decidable (_ ∨ _))
def dJ (os : List OrdA) (q : ReqA) (p : RepA) (x : OrdA) : Prop := (∃ y ∈ x :: os, uQ y) ∨ 20 < os.length ∨ 30 < q.xs.length ∨ 30 < q.many ∨ 40 < p.its.length ∨ 60 < p.pa.length ∨ 300 < p.pb.length
instance (os : List OrdA) (q : ReqA) (p : RepA) (x : OrdA) : Decidable (dJ os q p x) := inferInstanceAs (Decidable (_ ∨ _))
theorem GI {l : List OrdA} {k : Nat} (h : k < l.length) (hb : uQ (l.getD k C6)) : ∃ y ∈ l, uQ y := ⟨_, E6 C6 h, hb⟩
theorem zgI {l : List OrdA} (h : ∀ i, i < l.length → ¬ uQ (l.getD i C6)) : ¬ ∃ y ∈ l, uQ y := fun ⟨y, hy, hb⟩ => by
 obtain ⟨i, hi, rfl⟩ := List.mem_iff_getElem.1 hy
 exact h i hi (by simpa [List.getD, hi] using hb)
end Go.E
