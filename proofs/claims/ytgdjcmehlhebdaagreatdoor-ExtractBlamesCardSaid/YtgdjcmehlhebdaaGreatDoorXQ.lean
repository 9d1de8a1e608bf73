/- Sealed blocks, items and their leaves' texts; unlike items whose leaves are alike. -/
import Derived.Test.YtgdjcmehlhebdaaGreatDoorXP
import Derived.Test.YtgdjcmehlhebdaaGreatDoorP3
set_option maxHeartbeats 25600000
namespace Go.E
def T16 := { l : List UInt8 // l.length = 16 }
instance : DecidableEq T16 := fun a b => decidable_of_iff (a.1 = b.1) ⟨Subtype.ext, fun h => by rw [h]⟩
structure Sealed where
 ep : Nat
 lt : ep < 18446744073709551616
 data : H32
 tag : T16
def zb7 : Sealed := ⟨0, by decide, zac, ⟨List.replicate 16 0, by simp⟩⟩
def zaD (x : Sealed) : List Value := .int .u64 (x.ep : Int) :: (hvl x.data ++ zad x.tag.1)
theorem zam (x : Sealed) : (zaD x).length = 49 := by simp [zaD, zag, zal, x.tag.2]
structure Item where
 there : Bool
 s : Sealed
def zaT (x : Item) : List Value := .bool x.there :: zaD x.s
theorem zax (x : Item) : (zaT x).length = 50 := by rw [zaT, List.length_cons, zam]
def putS (x : Sealed) : List UInt8 := numB x.ep 8 ++ x.data.1 ++ x.tag.1
def zcN (i : Nat) (x : Sealed) : List UInt8 := numB 1 1 ++ numB i 4 ++ putS x
def zb2 (i : Nat) (x : Item) : List UInt8 := if x.there = true then zcN i x.s else [0]
theorem zbX (x : Sealed) : (putS x).length = 56 := by simp [putS, zaC, x.data.2, x.tag.2]
theorem zcW (i : Nat) (x : Sealed) : (zcN i x).length = 61 := by simp [zcN, zaC, zbX]
theorem zsD {a b : Nat} (h : UInt8.ofNat a = UInt8.ofNat b) : a % 256 = b % 256 := by
 have := congrArg UInt8.toNat h
 simpa [UInt8.toNat_ofNat'] using this
theorem zq6 (s : Nat) : ∀ {n m : Nat}, numB n s = numB m s → n % 256 ^ s = m % 256 ^ s := by
 induction s with
 | zero => intro n m _; simp [Nat.mod_one]
 | succ s ih =>
  intro n m h
  have hg : ∀ i, i < s + 1 → UInt8.ofNat (n / 2 ^ (8 * (s + 1 - 1 - i))) = UInt8.ofNat (m / 2 ^ (8 * (s + 1 - 1 - i))) := fun i hi => by
   have := congrArg (fun l : List UInt8 => l[i]?) h
   simpa [numB, hi] using this
  have h0 := zsD (hg s (Nat.lt_succ_self _))
  rw [show s + 1 - 1 - s = 0 by omega, Nat.mul_zero, Nat.pow_zero, Nat.div_one, Nat.div_one] at h0
  have h1 := ih (n := n / 256) (m := m / 256) (by
   unfold numB
   refine List.map_congr_left fun i hi => ?_
   have hi := List.mem_range.1 hi
   have := hg i ow
   rw [show s + 1 - 1 - i = (s - 1 - i) + 1 by omega, Nat.mul_add, Nat.mul_one, Nat.pow_add, show (2 : Nat) ^ 8 = 256 from rfl, Nat.mul_comm, ← Nat.div_div_eq_div_mul, ← Nat.div_div_eq_div_mul] at this
   exact this)
  rw [Nat.pow_succ, Nat.mul_comm, Nat.mod_mul, Nat.mod_mul, h0, h1]
theorem zq7 {s n m : Nat} (hn : n < 256 ^ s) (hm : m < 256 ^ s) (h : numB n s = numB m s) : n = m := by
 have := zq6 s h
 rwa [Nat.mod_eq_of_lt hn, Nat.mod_eq_of_lt hm] at this
theorem zq8 {x y : Sealed} (h : putS x = putS y) : x = y := by
 unfold putS at h
 have a := List.append_inj h (by rw [List.length_append, List.length_append, zaC, zaC, x.data.2, y.data.2])
 have b := List.append_inj a.1 (by rw [zaC, zaC])
 have c := zq7 (s := 8) x.lt y.lt b.1
 cases x; cases y
 simp only at c a b
 subst c
 have d1 := Subtype.ext b.2
 have d2 := Subtype.ext a.2
 subst d1
 subst d2
 rfl
theorem zoW {i : Nat} {x y : Sealed} (h : zcN i x = zcN i y) : x = y := zq8 (List.append_inj h rfl).2
def zl6 (x y : Item) : Prop := x.there = y.there ∧ (x.there = true → x.s = y.s)
theorem zoX {i : Nat} {x y : Item} (h : zb2 i x = zb2 i y) : zl6 x y := by
 unfold zb2 at h
 split at h
 ·rename_i hx
  split at h
  ·rename_i hy
   exact ⟨by rw [hx, hy], fun _ => zoW h⟩
  ·have := congrArg List.length h
   rw [zcW] at this; simp at this
 ·rename_i hx
  split at h
  ·have := congrArg List.length h
   rw [zcW] at this; simp at this
  ·rename_i hy
   exact ⟨by cases hx' : x.there <;> cases hy' : y.there <;> simp_all, fun e => absurd e hx⟩
def zaU : Item := ⟨false, zb7⟩
def ziB (xs : List Nat) (l : List Item) : List (List UInt8) := (List.range xs.length).map fun i => zb2 (xs.getD i 0) (l.getD i zaU)
theorem zc8 (xs : List Nat) (l : List Item) : (ziB xs l).length = xs.length := by simp [ziB]
theorem zm2 {xs : List Nat} {a b : List Item} (h : ∀ i, i < xs.length → shaH (zb2 (xs.getD i 0) (a.getD i zaU)) = shaH (zb2 (xs.getD i 0) (b.getD i zaU)))
  (hn : ¬ ∀ i, i < xs.length → zl6 (a.getD i zaU) (b.getD i zaU)) : ∃ q ∈ (ziB xs a).zip (ziB xs b), isF q = true := by
 refine Decidable.byContradiction fun hc => hn fun i hi => ?_
 refine zoX (i := xs.getD i 0) (Decidable.byContradiction fun hne => hc ⟨(zb2 (xs.getD i 0) (a.getD i zaU), zb2 (xs.getD i 0) (b.getD i zaU)), ?_, zgE.2 ⟨hne, h i hi⟩⟩)
 refine List.mem_iff_getElem.2 ⟨i, by rw [List.length_zip, zc8, zc8]; omega, ?_⟩
 simp [ziB]
theorem zdU {P : Program} {w : World} {e : TypeId} {off n : Nat} {xs : List Value} (h : rowT P e = true) (hs : (P.info? e).map (·.size) = some n) :
  (part e xs.toArray off).run P w = .ok (.agg ((xs.drop off).take n).toArray) w := by
 obtain ⟨i, hi, h1⟩ := Option.map_eq_some_iff.1 hs
 have hc : P.cellsOf e = n := by simp [Program.cellsOf, hi, h1]
 have ha := zeF (P := P) (T := e) (w := w) h
 have hz := run_sizeOf (P := P) w hi
 simp [part, ha, hz, hc, List.extract]
theorem zoY {n : Nat} {xs ys : List UInt8} (h1 : xs.length = n) (h2 : ys.length = n) : ((List.range n).all fun i => decide (xs.getD i 0 = ys.getD i 0)) = decide (xs = ys) := by
 rw [Bool.eq_iff_iff]
 simp only [List.all_eq_true, List.mem_range, decide_eq_true_eq]
 constructor
 ·intro h
  refine List.ext_getElem ow fun i h3 h4 => ?_
  have := h i ow
  simpa [List.getD, h3, h4] using this
 ·rintro rfl i _; rfl
theorem zgL {P : Program} {w : World} {T e : TypeId} {n : Nat} {xs ys : List UInt8} (hx : xs.length = n) (hy : ys.length = n) (ht : P.underlying T = some (.array n e)) (he : P.underlying e = some (.int .u8)) (hs : (P.info? e).map (·.size) = some 1) (d : Nat) :
  (Op.equalIn (d + 2) T (.agg (zad xs).toArray) (.agg (zad ys).toArray)).run P w = .ok (decide (xs = ys)) w := by
 obtain ⟨i, hi, h1⟩ := Option.map_eq_some_iff.1 hs
 have hc : P.cellsOf e = 1 := by simp [Program.cellsOf, hi, h1]
 have := zc0 (P := P) (w := w) d he xs ys (List.range n) (fun i h => by rw [hx, hy]; simpa using h)
 rw [run_equalIn_array w (d + 1) _ _ ht hi, hc, this, zoY hx hy]
instance : DecidableEq Sealed := fun a b => decidable_of_iff (a.ep = b.ep ∧ a.data = b.data ∧ a.tag = b.tag) ⟨fun ⟨h1, h2, h3⟩ => by cases a; cases b; simp_all, fun h => by rw [h]; exact ⟨rfl, rfl, rfl⟩⟩
instance : DecidableEq Item := fun a b => decidable_of_iff (a.there = b.there ∧ a.s = b.s) ⟨fun ⟨h1, h2⟩ => by cases a; cases b; simp_all, fun h => by rw [h]; exact ⟨rfl, rfl⟩⟩
def zsE (P : Program) (T : TypeId) : Prop := ∃ f0 f1 f2 e, P.underlying T = some (.struct #[f0, f1, f2]) ∧ P.stoodInHeld T = false ∧ (f0.name ≠ "_" ∧ f1.name ≠ "_" ∧ f2.name ≠ "_") ∧ (f0.offset = 0 ∧ f1.offset = 1 ∧ f2.offset = 33) ∧
 P.underlying f0.type = some (.int .u64) ∧ P.underlying f1.type = some (.array 32 e) ∧ P.underlying f2.type = some (.array 16 e) ∧ P.underlying e = some (.int .u8) ∧ (P.info? e).map (·.size) = some 1 ∧
 (rowT P f1.type = true ∧ rowT P f2.type = true) ∧ (P.info? f1.type).map (·.size) = some 32 ∧ (P.info? f2.type).map (·.size) = some 16
theorem zhS (x : Sealed) : ((zaD x).drop 1).take 32 = zad x.data.1 := by
 show ((hvl x.data ++ zad x.tag.1)).take 32 = _
 rw [List.take_append_of_le_length (by rw [zag]; exact Nat.le_refl _)]
 exact List.take_of_length_le (by rw [zag]; exact Nat.le_refl _)
theorem zjI (x : Sealed) : ((zaD x).drop 33).take 16 = zad x.tag.1 := by
 show ((hvl x.data ++ zad x.tag.1).drop 32).take 16 = _
 rw [List.drop_append_of_le_length (by rw [zag]; exact Nat.le_refl _), List.drop_of_length_le (by rw [zag]; exact Nat.le_refl _), List.nil_append]
 exact List.take_of_length_le (by rw [zal, x.tag.2]; exact Nat.le_refl _)
theorem zjJ {P : Program} {w : World} {T : TypeId} (h : zsE P T) (x y : Sealed) (d : Nat) :
  (Op.equalIn (d + 4) T (.agg (zaD x).toArray) (.agg (zaD y).toArray)).run P w = .ok (decide (x = y)) w := by
 obtain ⟨f0, f1, f2, e, hT, hs, ⟨n0, n1, n2⟩, ⟨o0, o1, o2⟩, t0, t1, t2, te, se, ⟨r1, r2⟩, s1, s2⟩ := h
 have hf : P.fieldsOf T = #[f0, f1, f2] := by simp [Program.fieldsOf, hT]
 have hp : P.plainKey f0.type = true := by simp [Program.plainKey, t0]
 have a0 : ∀ z : Sealed, (part f0.type (zaD z).toArray 0).run P w = .ok (.int .u64 (z.ep : Int)) w := fun z => run_part_plain (P := P) w hp (by simp [zaD])
 have a1 : ∀ z : Sealed, (part f1.type (zaD z).toArray 1).run P w = .ok (.agg (zad z.data.1).toArray) w := fun z => by rw [zdU r1 s1, zhS]
 have a2 : ∀ z : Sealed, (part f2.type (zaD z).toArray 33).run P w = .ok (.agg (zad z.tag.1).toArray) w := fun z => by rw [zdU r2 s2, zjI]
 have e0 := zep (P := P) (w := w) (k := .u64) (a := (x.ep : Int)) (b := (y.ep : Int)) t0 (d + 2)
 have e1 := zgL (P := P) (w := w) x.data.2 y.data.2 t1 te se (d + 1)
 have e2 := zgL (P := P) (w := w) x.tag.2 y.tag.2 t2 te se (d + 1)
 rw [run_equalIn_struct w (d + 3) T _ _ (by rw [hf]; exact hT) hs, hf]
 simp only [Op.eqFields, n0, n1, n2, o0, o1, o2, ne_eq, not_false_eq_true, if_true, Sem.run_bind, Sem.run_ite, Sem.run_pure, a0, a1, a2, e0, e1, e2, Result.andThen_ok]
 have hx : (x = y) ↔ (x.ep = y.ep ∧ x.data.1 = y.data.1 ∧ x.tag.1 = y.tag.1) := ⟨fun h => by rw [h]; exact ⟨rfl, rfl, rfl⟩, fun ⟨q1, q2, q3⟩ => by
  have q4 : x.data = y.data := Subtype.ext q2
  have q5 : x.tag = y.tag := Subtype.ext q3
  cases x; cases y; simp only at q1 q4 q5; subst q1; subst q4; subst q5; rfl⟩
 by_cases c0 : x.ep = y.ep
 ·by_cases c1 : x.data.1 = y.data.1
  ·by_cases c2 : x.tag.1 = y.tag.1
   ·have : decide (x = y) = true := decide_eq_true (hx.2 ⟨c0, c1, c2⟩)
    simp [c0, c1, c2, this]
   ·have : decide (x = y) = false := decide_eq_false fun h => c2 (hx.1 h).2.2
    simp [c0, c1, c2, this]
  ·have : decide (x = y) = false := decide_eq_false fun h => c1 (hx.1 h).2.1
   simp [c0, c1, this]
 ·have : decide (x = y) = false := decide_eq_false fun h => c0 (hx.1 h).1
  have c : ¬ ((x.ep : Int) = (y.ep : Int)) := fun h => c0 ow
  have cb : (((x.ep : Int)) == ((y.ep : Int))) = false := by rw [beq_eq_false_iff_ne]; exact c
  simp [cb, this]
section
variable {C : Ctx} {env : Env} {L : List Assn} {dst : Option Tmp} {ty ty2 : TypeId} {pos : String} {after : Array Edge} {guard : Option (Nat × Bool)} {x y : Operand} {T : TypeId}
theorem Qt.neSeal {a b : Sealed} (hm : C.P.eqGuardType C.P.depth T = false) (ht : zsE C.P T) (hx : env.ev x = .agg (zaD a).toArray) (hy : env.ev y = .agg (zaD b).toArray) : Qt C L ⟨dst, .binOp .neq T x y ty2, ty, pos, after, guard⟩ env (.bool (decide (a ≠ b))) := fun w _ => by
 have h := zjJ (P := C.P) (w := w) ht a b 9996
 have h2 : (binOp .neq T (.agg (zaD a).toArray) (.agg (zaD b).toArray)).run C.P w = .ok (.bool (decide (a ≠ b))) w := by
  rw [run_neq_struct, h]; simp
 have h3 : (eqGuard .neq T x y (.agg (zaD a).toArray) (.agg (zaD b).toArray)).run C.P w = .ok () w := run_eqGuard_agg w .neq T x y _ _ hm
 simp [execOp, hx, hy, h2, h3]
end
structure Order where
 kind : Int
 xs : List Nat
 ss : List Sealed
 blocks : Nat
def epOk (e : Nat) : Prop := 1 ≤ e ∧ e < 18446744073709551615
instance (e : Nat) : Decidable (epOk e) := inferInstanceAs (Decidable (_ ∧ _))
def zbe (o : Order) : Prop := (o.kind = 1 ∧ o.blocks = 0 ∧ idxOk 32 o.xs ∧ o.ss.length = o.xs.length ∧ ∀ s ∈ o.ss, epOk s.ep ∧ s.ep = (o.ss.getD 0 zb7).ep) ∨ (o.kind = 2 ∧ o.blocks = 0 ∧ idxOk 32 o.xs ∧ o.ss.length = 0) ∨ (o.kind = 3 ∧ o.xs.length = 0 ∧ o.ss.length = 0 ∧ okN o.blocks)
instance (o : Order) : Decidable (zbe o) := inferInstanceAs (Decidable (_ ∨ _ ∨ _))
def zce (o : Order) (blocks : Nat) : Prop := zbe o ∧ ∀ x ∈ o.xs, x < blocks
instance (o : Order) (b : Nat) : Decidable (zce o b) := inferInstanceAs (Decidable (_ ∧ _))
theorem zdV (ss : List Sealed) : (ss.flatMap zaD).length = ss.length * 49 := by
 induction ss with
 | nil => rfl
 | cons t ts ih => rw [List.flatMap_cons, List.length_append, ih, zam, List.length_cons]; omega
theorem zf1 {ss : List Sealed} {k i : Nat} (h : k < ss.length) (hi : i = k * 49) : ∀ j v, (zaD (ss.getD k zb7))[j]? = some v → (ss.flatMap zaD)[i + j]? = some v := fun j v hj => by
 subst hi
 exact zeu (encL := zaD) (sz := 49) zam ss k _ (getD_some zb7 h) j v hj
theorem zdW (x : Sealed) : (zaD x).all (·.oneCell') = true := by
 refine List.all_eq_true.2 fun u hu => ?_
 rcases List.mem_cons.1 hu with rfl | hu
 ·rfl
 ·rcases List.mem_append.1 hu with hu | hu
  ·exact zaw x.data.1 u hu
  ·exact zaw x.tag.1 u hu
def sv (x : Sealed) : Value := .agg (zaD x).toArray
theorem ztj {ss : List Sealed} {k : Nat} (h : k < ss.length) : ss.getD k zb7 ∈ ss := by
 rw [show ss.getD k zb7 = ss[k] by simp [List.getD, h]]; exact List.getElem_mem h
def oddS (ss : List Sealed) (x : Sealed) : Bool := decide (¬ epOk x.ep ∨ x.ep ≠ (ss.getD 0 zb7).ep)
theorem zsF {k : Int} {xs : List Nat} {ss : List Sealed} {b : Nat} (h1 : k = 1) (h2 : b = 0) (h3 : idxOk 32 xs) (h4 : ss.length = xs.length) (h5 : ∀ s ∈ ss, oddS ss s = false) : zbe ⟨k, xs, ss, b⟩ := by
 refine .inl ⟨h1, h2, h3, h4, fun s hs => ?_⟩
 have := of_decide_eq_false (h5 s hs)
 exact ⟨Decidable.byContradiction fun h => this (.inl h), Decidable.byContradiction fun h => this (.inr h)⟩
theorem zoZ {k : Int} {xs : List Nat} {ss : List Sealed} {b : Nat} (h1 : k = 1) (h5 : ∃ s ∈ ss, oddS ss s = true) : ¬ zbe ⟨k, xs, ss, b⟩ := by
 rintro (⟨a, b, c, d, e⟩ | ⟨a, _⟩ | ⟨a, _⟩)
 ·obtain ⟨s, hs, ho⟩ := h5
  rcases of_decide_eq_true ho with h | h
  ·exact h (e s hs).1
  ·exact h (e s hs).2
 ·have : k = 2 := a; omega
 ·have : k = 3 := a; omega
def zaX (A : OAd) (c : Nat) (B : OAd) (d : Nat) (o : Order) : List Value := [.int .i64 o.kind, .slice A o.xs.length c, .slice B o.ss.length d, .int .u64 (o.blocks : Int)]
def zfk (leaf : Nat → H32) (node : Nat × Nat → H32) (path : Nat → List H32) (n : Nat) (o : Order) (err : Int) (pa pb : List H32) : List Pr :=
 if err ≠ 0 ∨ ¬ zce o n then [] else if o.kind ≠ 3 then zbl (zbp (hgt n : Int) o.xs (o.xs.map leaf) ((zaj (hgt n) o.xs 0).map node)) (zbp (hgt n : Int) o.xs pa pb)
 else if o.blocks < n ∧ pa.length = 1 then zbl (zc3 (leaf (o.blocks - 1)) (o.blocks - 1) (path (o.blocks - 1))) (zc3 (pa.getD 0 zac) (o.blocks - 1) pb) else []
theorem zo0 {o : Order} {n : Nat} (h : zce o n) (hk : o.kind ≠ 3) : idxOk 32 o.xs := by
 rcases h.1 with ⟨_, _, c, _⟩ | ⟨_, _, c, _⟩ | ⟨a, _⟩
 ·exact c
 ·exact c
 ·exact absurd a hk
theorem zgM {o : Order} {n : Nat} (hn : okN n) (h : zce o n) (hk : o.kind ≠ 3) : idxOk (hgt n) o.xs := by
 have h1 := zo0 h hk
 refine ⟨h1.1, h1.2.1, fun j hj => ⟨?_, (h1.2.2 j hj).2⟩⟩
 have := h.2 _ (zbk 0 hj)
 have := zdA hn
 omega
theorem za3 {o : Order} {n : Nat} (h : zce o n) (hk : o.kind = 3) : okN o.blocks := by
 rcases h.1 with ⟨a, _⟩ | ⟨a, _⟩ | ⟨_, _, _, d⟩
 ·rw [hk] at a; exact absurd a (by decide)
 ·rw [hk] at a; exact absurd a (by decide)
 ·exact d
theorem zjK {leaf : Nat → H32} {node : Nat × Nat → H32} {path : Nat → List H32} {n : Nat} {o : Order} {err : Int} {pa pb : List H32} (h : err ≠ 0 ∨ ¬ zce o n) : zfk leaf node path n o err pa pb = [] := if_pos h
theorem zea {leaf : Nat → H32} {node : Nat × Nat → H32} {path : Nat → List H32} {n : Nat} {o : Order} {err : Int} {pa pb : List H32} (h1 : ¬ err ≠ 0) (h2 : zce o n) (h3 : o.kind ≠ 3) : zfk leaf node path n o err pa pb = zbl (zbp (hgt n : Int) o.xs (o.xs.map leaf) ((zaj (hgt n) o.xs 0).map node)) (zbp (hgt n : Int) o.xs pa pb) := by
 rw [zfk, if_neg (fun h => h.elim h1 (fun k => k h2)), if_pos h3]
theorem zfl {leaf : Nat → H32} {node : Nat × Nat → H32} {path : Nat → List H32} {n : Nat} {o : Order} {err : Int} {pa pb : List H32} (h1 : ¬ err ≠ 0) (h2 : zce o n) (h3 : ¬ o.kind ≠ 3) (h4 : o.blocks < n) (h5 : pa.length = 1) : zfk leaf node path n o err pa pb = zbl (zc3 (leaf (o.blocks - 1)) (o.blocks - 1) (path (o.blocks - 1))) (zc3 (pa.getD 0 zac) (o.blocks - 1) pb) := by
 rw [zfk, if_neg (fun h => h.elim h1 (fun k => k h2)), if_neg h3, if_pos ⟨h4, h5⟩]
theorem zl7 {leaf : Nat → H32} {node : Nat × Nat → H32} {path : Nat → List H32} {n : Nat} {o : Order} {err : Int} {pa pb : List H32} (h1 : ¬ err ≠ 0) (h2 : zce o n) (h3 : ¬ o.kind ≠ 3) (h4 : ¬ (o.blocks < n ∧ pa.length = 1)) : zfk leaf node path n o err pa pb = [] := by
 rw [zfk, if_neg (fun h => h.elim h1 (fun k => k h2)), if_neg h3, if_neg h4]
theorem Qt.build3 {C : Ctx} {env : Env} {L : List Assn} {T ty : TypeId} {dst : Option Tmp} {pos : String} {after : Array Edge} {guard : Option (Nat × Bool)} {i j k : Nat} {x y z : Operand} {a b c v : Value} (hx : env.ev x = a) (hy : env.ev y = b) (hz : env.ev z = c)
  (h : ∀ w, (Instr.build T #[(i, a), (j, b), (k, c)]).run C.P w = .ok v w) : Qt C L ⟨dst, .build T #[(i, x), (j, y), (k, z)], ty, pos, after, guard⟩ env v := Qt.build (ps := #[(i, a), (j, b), (k, c)]) (by simp [hx, hy, hz]) h
def TxLe (X : Option (List (List UInt8))) : Prop := ∀ xs, X = some xs → ∀ t ∈ xs, t.length ≤ 70368744177664
theorem zl8 (x : H32) (i : Nat) (ps : List H32) : TxLe (zc3 x i ps) := fun xs h t ht => by
 unfold zc3 at h
 split at h
 ·injection h with h
  subst h
  obtain ⟨k, _, rfl⟩ := List.mem_map.1 ht
  unfold zc2
  split <;> (rw [zba]; decide)
 ·cases h
theorem zf2 (z : Int) (xs : List Nat) (ls bs : List H32) : TxLe (zbp z xs ls bs) := fun ys h t ht => by
 unfold zbp at h
 split at h
 ·injection h with h
  subst h
  unfold zkE at ht
  split at ht
  ·rw [zgD _ _ _ _ _ t ht]; decide
  ·rename_i g1 g2; exact absurd g1 g2
 ·cases h
theorem zeb {X1 X2 : Option (List (List UInt8))} (h1 : TxLe X1) (h2 : TxLe X2) : ∀ p ∈ zbl X1 X2, p.1.length ≤ 70368744177664 ∧ p.2.length ≤ 70368744177664 := fun p hp => by
 cases X1 with
 | none => cases hp
 | some a => cases X2 with
  | none => cases hp
  | some b =>
   have hp' : p ∈ zipX a b := hp
   unfold zipX at hp'
   split at hp'
   ·have := List.of_mem_zip (a := p.1) (b := p.2) hp'
    exact ⟨h1 a rfl _ this.1, h2 b rfl _ this.2⟩
   ·cases hp'
theorem PxLe.of {ps : List Px} {E : List Pr} (e : ps.map pxT = E) (h : ∀ p ∈ E, p.1.length ≤ 70368744177664 ∧ p.2.length ≤ 70368744177664) : PxLe ps := fun p hp => h (pxT p) (e ▸ List.mem_map_of_mem hp)
theorem PxRo.many {C : Ctx} {L Ls : List Assn} {ps : List Px} (h : Rd C L (Many Ls)) (hm : ∀ p ∈ ps, zaN p.1 ∈ Ls ∧ zaN p.2 ∈ Ls) {w : World} (hw : St C.w0 C.M L w) : PxRo w [] ps := fun p hp =>
 ⟨Rd.own (e := 5) (sz := 1) (Rd.many h (hm p hp).1) w hw, Rd.own (e := 5) (sz := 1) (Rd.many h (hm p hp).2) w hw⟩
theorem zgN (w : World) : Ro w [] (SlA none []) := ⟨fun j u hj => by simp at hj, fun b hb => by rw [zcC] at hb; obtain ⟨x, hx, _⟩ := zbx hb; cases hx⟩
theorem zjL : zce ⟨2, [0, 1], [], 0⟩ 2 := by decide
theorem zm3 (leaf : Nat → H32) (node : Nat × Nat → H32) (path : Nat → List H32) : zfk leaf node path 2 ⟨2, [0, 1], [], 0⟩ 0 [zac, zac] [] = [(zaM 1 (leaf 0) (leaf 1), zaM 1 zac zac)] := by
 rw [zea (by decide) zjL (by decide)]
 have h2 : hgt 2 = 1 := by decide
 rw [h2]
 have hi : idxOk 1 [0, 1] := by decide
 show zbl (zbp ((1 : Nat) : Int) [0, 1] _ _) (zbp ((1 : Nat) : Int) [0, 1] _ _) = _
 have hs : zaj 1 [0, 1] 0 = [] := by decide
 show zbl (zbp ((1 : Nat) : Int) [0, 1] [leaf 0, leaf 1] ((zaj 1 [0, 1] 0).map node)) (zbp ((1 : Nat) : Int) [0, 1] [zac, zac] []) = _
 rw [hs, zkO (by decide) hi rfl (by rw [hs]; rfl), zkO (by decide) hi rfl (by rw [hs]; rfl)]
 rfl
theorem zq9 {a b : List Value} : ∀ j v, a[j]? = some v → (a ++ b)[0 + j]? = some v := fun j v h => by
 rw [Nat.zero_add, List.getElem?_append_left (List.getElem?_eq_some_iff.1 h).1]; exact h
theorem zgO {a b : List Value} {n : Nat} (hn : a.length = n) : ∀ j v, b[j]? = some v → (a ++ b)[n + j]? = some v := fun j v h => by
 subst hn; rw [List.getElem?_append_right ow]; simpa using h
theorem Ro.sealD {w : World} {M : List Nat} {b : Nat} {T : TypeId} {x : Sealed} (h : Ro w M (Blk b T (zaD x))) : Ro w M (SlA (some ⟨b, 1, none⟩) (zad x.data.1)) := by
 have k := Ro.part (Ro.blk h) 1 32
 rw [zhS] at k
 simpa [zbh] using k
theorem Ro.sealT {w : World} {M : List Nat} {b : Nat} {T : TypeId} {x : Sealed} (h : Ro w M (Blk b T (zaD x))) : Ro w M (SlA (some ⟨b, 33, none⟩) (zad x.tag.1)) := by
 have k := Ro.part (Ro.blk h) 33 16
 rw [zjI] at k
 simpa [zbh] using k
def digL (n s k : Nat) : List Value := List.replicate (s - k) (.int .u8 0) ++ zad ((numB n s).drop (s - k))
theorem zo1 (n s : Nat) : digL n s 0 = List.replicate s (.int .u8 0) := by
 unfold digL
 rw [Nat.sub_zero, List.drop_of_length_le (by rw [zaC]; exact Nat.le_refl _)]
 simp [zad]
theorem zra (n s : Nat) : digL n s s = zad (numB n s) := by
 unfold digL
 rw [Nat.sub_self]; simp
theorem zf3 (n s k : Nat) (h : k ≤ s) : (digL n s k).length = s := by
 unfold digL
 rw [List.length_append, List.length_replicate, zal, List.length_drop, zaC]; omega
theorem zo2 {n s k : Nat} (h : k < s) : (numB n s).drop (s - 1 - k) = UInt8.ofNat (n / 2 ^ (8 * k)) :: (numB n s).drop (s - k) := by
 have hl : s - 1 - k < (numB n s).length := by rw [zaC]; omega
 rw [List.drop_eq_getElem_cons hl, show s - 1 - k + 1 = s - k by omega]
 congr 1
 simp only [numB, List.getElem_map, List.getElem_range]
 rw [show s - 1 - (s - 1 - k) = k by omega]
theorem zrb {n s k : Nat} (h : k < s) (u : UInt8) (hu : u = UInt8.ofNat (n / 2 ^ (8 * k))) : (digL n s k).set (s - 1 - k) (.int .u8 ((u.toNat : Nat) : Int)) = digL n s (k + 1) := by
 subst hu
 unfold digL
 rw [List.set_append_left _ _ (by rw [List.length_replicate]; omega)]
 rw [show s - (k + 1) = s - 1 - k by omega, zo2 h]
 have : List.replicate (s - k) (Value.int .u8 0) = List.replicate (s - 1 - k) (.int .u8 0) ++ [.int .u8 0] := by
  rw [show s - k = (s - 1 - k) + 1 by omega, List.replicate_succ']
 rw [this, List.set_append_right _ _ (by rw [List.length_replicate]; exact Nat.le_refl _), List.length_replicate, Nat.sub_self]
 simp [zad]
theorem zrc (n k : Nat) : n / 2 ^ (8 * k) / 256 = n / 2 ^ (8 * (k + 1)) := by
 rw [Nat.div_div_eq_div_mul, Nat.mul_add, Nat.pow_add]
def zbA (xs : List Nat) (l : List Item) : Option (List (List UInt8)) := if l.length = xs.length ∧ ∀ x ∈ xs, x < 4294967296 then some (ziB xs l) else none
theorem zgP {xs : List Nat} {l : List Item} (h1 : l.length = xs.length) (h2 : ∀ x ∈ xs, x < 4294967296) : zbA xs l = some (ziB xs l) := if_pos ⟨h1, h2⟩
theorem zo3 {xs : List Nat} {l : List Item} (h : ¬ (l.length = xs.length ∧ ∀ x ∈ xs, x < 4294967296)) : zbA xs l = none := if_neg h
theorem zo4 (i : Nat) (x : Item) : (zb2 i x).length ≤ 61 := by
 unfold zb2; split
 ·rw [zcW]; exact Nat.le_refl _
 ·decide
theorem zeZ (xs : List Nat) (l : List Item) : TxLe (zbA xs l) := fun ys h t ht => by
 unfold zbA at h
 split at h
 ·injection h with h
  subst h
  obtain ⟨k, _, rfl⟩ := List.mem_map.1 ht
  have := zo4 (xs.getD k 0) (l.getD k zaU)
  omega
 ·cases h
theorem zcl (l : List Item) : (l.flatMap zaT).length = l.length * 50 := by
 induction l with
 | nil => rfl
 | cons t ts ih => rw [List.flatMap_cons, List.length_append, ih, zax, List.length_cons]; omega
theorem zec {l : List Item} {k i : Nat} (h : k < l.length) (hi : i = k * 50) : ∀ j v, (zaT (l.getD k zaU))[j]? = some v → (l.flatMap zaT)[i + j]? = some v := fun j v hj => by
 subst hi
 exact zeu (encL := zaT) (sz := 50) zax l k _ (getD_some zaU h) j v hj
theorem zdX (x : Item) : (zaT x).all (·.oneCell') = true := by
 rw [zaT, List.all_cons, zdW]; rfl
theorem zc9 (x : Item) : ∀ j v, (zaD x.s)[j]? = some v → (zaT x)[1 + j]? = some v := fun j v h => by
 rw [zaT, Nat.add_comm 1 j, List.getElem?_cons_succ]; exact h
theorem zo5 {l : List Item} {k : Nat} (h : k < l.length) : (l.take (k + 1)).flatMap zaT = (l.take k).flatMap zaT ++ zaT (l.getD k zaU) := by
 rw [List.take_succ_eq_append_getElem h, List.flatMap_append, show l.getD k zaU = l[k] by simp [List.getD, h]]; simp
def za4 (xs : List Nat) (l : List Item) (k : Nat) : List H32 := (List.range k).map fun i => shaH (zb2 (xs.getD i 0) (l.getD i zaU))
theorem zm4 (xs : List Nat) (l : List Item) (k : Nat) : za4 xs l (k + 1) = za4 xs l k ++ [shaH (zb2 (xs.getD k 0) (l.getD k zaU))] := by
 rw [za4, List.range_succ, List.map_append]; rfl
theorem za6 (xs : List Nat) (l : List Item) (k : Nat) : (za4 xs l k).length = k := by simp [za4]
def inR (xs : List Nat) (l : List Item) (k : Nat) : Prop := ∀ i, i < k → (l.getD i zaU).there = true → xs.getD i 0 < 4294967296
theorem ztk (m : Nat) : UInt8.ofNat (m % 256) = UInt8.ofNat m := by
 apply UInt8.toNat_inj.1
 simp [UInt8.toNat_ofNat']
section
variable {C : Ctx} {Q : EQ} {env : Env} {ops : Array Oper} {L : List Assn}
theorem TL.shutOwn {l : List Oper} {L0 L : List Assn} {e : TypeId} {sz g n c : Nat} {cs : List Value} (hl : cs.length = c * sz) (hn : n ≤ c) (hm : c ≤ maxLen) (s : L0.Perm (Blk g e cs :: L)) (h : TL C ops Q l env (OwnA e sz (some ⟨g, 0, none⟩) n c (cs.take (n * sz)) :: L)) : TL C ops Q l env L0 :=
 fun a w ha hw => h a w ha ((hw.perm s).shutOwn hl hn hm)
end
section
variable {C : Ctx} {env : Env} {L : List Assn} {dst : Option Tmp} {ty : TypeId} {pos : String} {after : Array Edge} {guard : Option (Nat × Bool)} {x y : Operand} {T e : TypeId}
theorem Qt.index_row {N i sz : Nat} {ki : IntKind} {cs : List Value} (ht : C.P.underlying T = some (.array N e)) (hr : rowT C.P e = true) (hs : (C.P.info? e).map (·.size) = some sz) (hx : env.ev x = .agg cs.toArray) (hy : env.ev y = .int ki (i : Int)) (hi : i < N) :
  Qt C L ⟨dst, .index T x y, ty, pos, after, guard⟩ env (.agg ((cs.drop (i * sz)).take sz).toArray) := fun w _ => by
 have h1 := zdU (P := C.P) (w := w) (e := e) (off := i * sz) (xs := cs) hr hs
 obtain ⟨inf, hin, hsz⟩ := Option.map_eq_some_iff.1 hs
 subst hsz
 simp [execOp, hx, hy, Instr.index, asIntOf, run_underlying ht, sizeOf, typeInfo, hin, hi, h1]
end
theorem zo6 {l : List H32} {i : Nat} (h : i < l.length) : ((hcs l).drop (i * 32)).take 32 = hvl (l.getD i zac) := by
 have hd : (hcs l).drop (i * 32) = hcs (l.drop i) := zeK ..
 rw [hd, List.drop_eq_getElem_cons h, show l.getD i zac = l[i] by simp [List.getD, h]]
 show (hvl l[i] ++ hcs (l.drop (i + 1))).take 32 = _
 rw [List.take_left' (zag _)]
theorem zsG {xs : List Nat} {k : Nat} (hk : k = xs.length) (h : ∀ j, j < k → xs.getD j 0 < 4294967296) : ∀ x ∈ xs, x < 4294967296 := fun x hx => by
 subst hk
 obtain ⟨j, hj, rfl⟩ := List.mem_iff_getElem.1 hx
 have := h j hj
 simpa [List.getD, hj] using this
theorem ze0 (b : Bool) (x : Sealed) : [Value.bool b, .agg (zaD x).toArray].flatMap vl = zaT ⟨b, x⟩ := by
 show [Value.bool b] ++ (zaD x ++ []) = _
 rw [List.append_nil]; rfl
theorem zsH (a b : Bool) : (a != b) = decide (a ≠ b) := by cases a <;> cases b <;> rfl
theorem zo7 (a : Bool) : Value.bool a = Value.bool (decide (a = true)) := by cases a <;> rfl
theorem zm5 {l : List Item} {k i : Nat} (h : k < l.length) (hi : i = k * 50 + 1) : ∀ j v, (zaD (l.getD k zaU).s)[j]? = some v → (l.flatMap zaT)[i + j]? = some v := fun j v hj => by
 subst hi
 have := zec h rfl (1 + j) v (zc9 _ j v hj)
 rwa [← Nat.add_assoc] at this
theorem zfm (l : List Item) (m : Nat) : (l.flatMap zaT).take (m * 50) = (l.take m).flatMap zaT := by
 induction l generalizing m with
 | nil => simp
 | cons a l ih =>
  cases m with
  | zero => simp
  | succ m =>
   rw [List.flatMap_cons, List.take_succ_cons, List.flatMap_cons, List.take_append, List.take_of_length_le (by rw [zax]; omega), zax, show (m + 1) * 50 - 50 = m * 50 by omega, ih]
theorem zjM (xs : List Nat) (l : List Item) (k : Nat) : hcs (za4 xs l (k + 1)) = hcs (za4 xs l k) ++ hvl (shaH (zb2 (xs.getD k 0) (l.getD k zaU))) := by
 rw [zm4]; simp [hcs]
theorem zl9 {xs : List Nat} {l : List Item} {k : Nat} (h : inR xs l k) (h1 : (l.getD k zaU).there = true → xs.getD k 0 < 4294967296) : inR xs l (k + 1) := fun i hi ht => by
 rcases Nat.lt_or_ge i k with g | g
 ·exact h i g ht
 ·obtain rfl : i = k := by omega
  exact h1 ht
def zfE (a b : List Item) : Prop := a.length = b.length ∧ ∀ i, i < a.length → zl6 (a.getD i zaU) (b.getD i zaU)
structure OrdA where
 A : OAd
 c : Nat
 B : OAd
 d : Nat
 o : Order
def ordL (x : OrdA) : List Value := zaX x.A x.c x.B x.d x.o
theorem zcI (x : OrdA) : (ordL x).length = 4 := rfl
theorem zf4 (x : OrdA) : (ordL x).all (·.oneCell') = true := rfl
structure OrdA.Ok (x : OrdA) (w : World) : Prop where
 cap : x.o.xs.length ≤ x.c
 low : ∀ i ∈ x.o.xs, i < 18446744073709551616
 blk : x.o.blocks < 18446744073709551616
 ro : Ro w [] (SlA x.A (u64s x.o.xs))
 rs : Ro w [] (SlA x.B (x.o.ss.flatMap zaD))
def ord0 : OrdA := ⟨none, 0, none, 0, ⟨0, [], [], 0⟩⟩
theorem ziC (os : List OrdA) : (os.flatMap ordL).length = os.length * 4 := by
 induction os with
 | nil => rfl
 | cons t ts ih => rw [List.flatMap_cons, List.length_append, ih, zcI, List.length_cons]; omega
theorem zo8 {os : List OrdA} {k i : Nat} (h : k < os.length) (hi : i = k * 4) : ∀ j v, (ordL (os.getD k ord0))[j]? = some v → (os.flatMap ordL)[i + j]? = some v := fun j v hj => by
 subst hi
 exact zeu (encL := ordL) (sz := 4) zcI os k _ (getD_some ord0 h) j v hj
theorem zrd (os : List OrdA) : ∀ u ∈ os.flatMap ordL, u.oneCell' = true := fun u hu => by
 obtain ⟨a, _, h⟩ := List.mem_flatMap.1 hu
 exact List.all_eq_true.1 (zf4 a) u h
structure ReqA where
 rq : List Value
 kind : Int
 A : OAd
 c : Nat
 xs : List Nat
 first : Nat
 many : Int
 len : rq.length = 28
 k1 : rq[1]? = some (.int .i64 kind)
 k2 : rq[2]? = some (.slice A xs.length c)
 k3 : rq[3]? = some (.int .u64 (first : Int))
 k4 : rq[4]? = some (.int .i64 many)
structure ReqA.Ok (q : ReqA) (w : World) : Prop where
 cap : q.xs.length ≤ q.c
 low : ∀ i ∈ q.xs, i < 18446744073709551616
 lt : q.first < 18446744073709551616
 lo : -9223372036854775808 ≤ q.many
 hi : q.many ≤ 9223372036854775807
 ro : Ro w [] (SlA q.A (u64s q.xs))
structure RepA where
 rs : List Value
 err : Int
 I : OAd
 i : Nat
 its : List Item
 P : OAd
 p : Nat
 pa : List H32
 Q : OAd
 q : Nat
 pb : List H32
 len : rs.length = 29
 k2 : rs[2]? = some (.int .i64 err)
 k3 : rs[3]? = some (.slice I its.length i)
 k27 : rs[27]? = some (.slice P pa.length p)
 k28 : rs[28]? = some (.slice Q pb.length q)
structure RepA.Ok (r : RepA) (w : World) : Prop where
 capi : r.its.length ≤ r.i
 capp : r.pa.length ≤ r.p
 capq : r.pb.length ≤ r.q
 roi : Ro w [] (SlA r.I (r.its.flatMap zaT))
 rop : Ro w [] (SlA r.P (hcs r.pa))
 roq : Ro w [] (SlA r.Q (hcs r.pb))
def askL (q : ReqA) (p : RepA) (x : OrdA) : List Value := q.rq ++ (p.rs ++ ordL x)
theorem zcJ (q : ReqA) (p : RepA) (x : OrdA) : (askL q p x).length = 61 := by rw [askL, List.length_append, List.length_append, q.len, p.len, zcI]
theorem zrV (q : ReqA) (p : RepA) (x : OrdA) : ∀ j v, q.rq[j]? = some v → (askL q p x)[0 + j]? = some v := zq9
theorem zbz (q : ReqA) (p : RepA) (x : OrdA) : ∀ j v, p.rs[j]? = some v → (askL q p x)[28 + j]? = some v := fun j v h => zgO q.len j v (by rw [List.getElem?_append_left (List.getElem?_eq_some_iff.1 h).1]; exact h)
theorem zfn (q : ReqA) (p : RepA) (x : OrdA) : ∀ j v, (ordL x)[j]? = some v → (askL q p x)[57 + j]? = some v := fun j v h => by
 have h2 : (p.rs ++ ordL x)[29 + j]? = some v := zgO p.len j v h
 have h3 := zgO (a := q.rq) q.len (29 + j) v h2
 rwa [← Nat.add_assoc] at h3
theorem ziD (q : ReqA) (p : RepA) (x : OrdA) {j : Nat} {v : Value} (h : q.rq[j]? = some v) : (askL q p x)[j]? = some v := by
 have := zrV q p x j v h; rwa [Nat.zero_add] at this
def bigO (x : OrdA) : Prop := 12 < x.o.xs.length ∨ 12 < x.o.ss.length
instance (x : OrdA) : Decidable (bigO x) := inferInstanceAs (Decidable (_ ∨ _))
def zdB (os : List OrdA) (q : ReqA) (p : RepA) (x : OrdA) : Prop := (∃ y ∈ x :: os, bigO y) ∨ 20 < os.length ∨ 30 < q.xs.length ∨ 30 < q.many ∨ 40 < p.its.length ∨ 60 < p.pa.length ∨ 300 < p.pb.length
instance (os : List OrdA) (q : ReqA) (p : RepA) (x : OrdA) : Decidable (zdB os q p x) := inferInstanceAs (Decidable (_ ∨ _))
theorem zo9 {l : List OrdA} {k : Nat} (h : k < l.length) (hb : bigO (l.getD k ord0)) : ∃ y ∈ l, bigO y := ⟨_, zbk ord0 h, hb⟩
theorem zre {l : List OrdA} (h : ∀ i, i < l.length → ¬ bigO (l.getD i ord0)) : ¬ ∃ y ∈ l, bigO y := fun ⟨y, hy, hb⟩ => by
 obtain ⟨i, hi, rfl⟩ := List.mem_iff_getElem.1 hy
 exact h i hi (by simpa [List.getD, hi] using hb)
end Go.E
