/- Plain words: heights; the root behind a growing step. -/
import Derived.Test.YtgdjcmehlhebdaaGreatDoorTR
set_option maxHeartbeats 25600000
namespace Go.E
def za0 (x : Nat) : Nat := if x = 0 then 0 else Nat.log2 x + 1
theorem zdj : za0 0 = 0 := rfl
theorem zgs (x : Nat) : x < 2 ^ za0 x := by
 unfold za0; split
 ·subst_vars; decide
 ·exact Nat.lt_log2_self
theorem zdK {x : Nat} (h : x ≠ 0) : 2 ^ (za0 x - 1) ≤ x := by
 rw [za0, if_neg h, Nat.add_sub_cancel]; exact Nat.log2_self_le h
theorem zmE {x : Nat} (h : x ≠ 0) : 1 ≤ za0 x := by rw [za0, if_neg h]; omega
theorem zgt {x k : Nat} (h1 : x < 2 ^ k) (h2 : k = 0 ∨ 2 ^ (k - 1) ≤ x) : za0 x = k := by
 have a := zgs x
 rcases Nat.lt_trichotomy (za0 x) k with h | h | h
 ·rcases h2 with h2 | h2
  ·omega
  ·have : 2 ^ za0 x ≤ 2 ^ (k - 1) := Nat.pow_le_pow_right (by decide) ow
   omega
 ·exact h
 ·have hx : x ≠ 0 := fun e => by rw [e, zdj] at h; omega
  have := zdK hx
  have : 2 ^ k ≤ 2 ^ (za0 x - 1) := Nat.pow_le_pow_right (by decide) ow
  omega
theorem zcR {x n : Nat} (h : 2 ^ n ≤ x) : za0 x = n + za0 (x / 2 ^ n) := by
 have hy : x / 2 ^ n ≠ 0 := by
  have := (Nat.le_div_iff_mul_le (Nat.two_pow_pos n)).2 (by rw [Nat.one_mul]; exact h)
  omega
 have a := zgs (x / 2 ^ n)
 have b := zdK hy
 have c := zmE hy
 refine zgt ?_ (.inr ?_)
 ·rw [Nat.pow_add, Nat.mul_comm]; exact (Nat.div_lt_iff_lt_mul (Nat.two_pow_pos n)).1 a
 ·have := Nat.le_trans (Nat.mul_le_mul_right (2 ^ n) b) (Nat.div_mul_le_self x (2 ^ n))
  rw [← Nat.pow_add] at this
  rwa [show n + za0 (x / 2 ^ n) - 1 = za0 (x / 2 ^ n) - 1 + n by omega]
def len8L : List UInt8 := (List.range 256).map fun i => UInt8.ofNat (za0 i)
theorem zil (s : ByteArray) (hs : s.data = len8L.toArray) {i : Nat} (h : i < 256) : s[i]? = some (UInt8.ofNat (za0 i)) := by
 have h1 : s.data[i]? = some (UInt8.ofNat (za0 i)) := by rw [hs]; simp [len8L, h]
 have hl : i < s.data.size := (Array.getElem?_eq_some_iff.1 h1).1
 have hl' : i < s.size := hl
 rw [getElem?_pos s i hl']
 have := Array.getElem?_eq_some_iff.1 h1
 exact congrArg some this.2
theorem zaG {i : Nat} (h : i < 256) : za0 i ≤ 8 := by
 rcases Nat.lt_or_ge 8 (za0 i) with h1 | h1
 ·have hx : i ≠ 0 := fun e => by rw [e, zdj] at h1; omega
  have := zdK hx
  have : 2 ^ 8 ≤ 2 ^ (za0 i - 1) := Nat.pow_le_pow_right (by decide) ow
  omega
 ·exact h1
theorem zfV {i : Nat} (h : i < 256) : (UInt8.ofNat (za0 i)).toNat = za0 i := by
 have := zaG h
 rw [UInt8.toNat_ofNat', Nat.mod_eq_of_lt ow]
/-! heights -/
def okN (n : Nat) : Prop := 1 ≤ n ∧ n ≤ 4294967296
instance (n : Nat) : Decidable (okN n) := inferInstanceAs (Decidable (_ ∧ _))
def hgt (n : Nat) : Nat := za0 (n - 1)
theorem zb0 {n : Nat} (h : okN n) : hgt n ≤ 32 := by
 obtain ⟨h1, h2⟩ := h
 rcases Nat.lt_or_ge 32 (hgt n) with h3 | h3
 ·unfold hgt at h3
  have hx : n - 1 ≠ 0 := fun e => by rw [e, zdj] at h3; omega
  have := zdK hx
  have : 2 ^ 32 ≤ 2 ^ (za0 (n - 1) - 1) := Nat.pow_le_pow_right (by decide) ow
  omega
 ·exact h3
theorem zdA {n : Nat} (h : okN n) : n ≤ 2 ^ hgt n := by
 have := zgs (n - 1)
 obtain ⟨h1, h2⟩ := h
 unfold hgt; omega
theorem zqC {n k : Nat} (hn : okN n) (h1 : n ≤ 2 ^ k) (h2 : k = 0 ∨ 2 ^ (k - 1) < n) : k = hgt n := by
 obtain ⟨h3, h4⟩ := hn
 refine (zgt ?_ ?_).symm
 ·omega
 ·rcases h2 with h2 | h2
  ·exact .inl h2
  ·exact .inr ow
theorem zeS {m n : Nat} (hm : okN m) (hn : okN n) (h : m ≤ n) : hgt m ≤ hgt n := by
 rcases Nat.lt_or_ge (hgt n) (hgt m) with h1 | h1
 ·have a := zdA hn
  unfold hgt at h1
  have hx : m - 1 ≠ 0 := fun e => by rw [e, zdj] at h1; omega
  have := zdK hx
  have : 2 ^ hgt n ≤ 2 ^ (za0 (m - 1) - 1) := Nat.pow_le_pow_right (by decide) (by unfold hgt; omega)
  have := hm.1
  omega
 ·exact h1
def zfP (E : Nat → H32) (root : H32) (low : Nat) : Nat → H32
 | 0 => root
 | k + 1 => zbj (low + k + 1) (zfP E root low k) (E (low + k))
def zhj (E : Nat → H32) (root : H32) (was blocks : Nat) : H32 := if okN was ∧ okN blocks ∧ was ≤ blocks then zfP E root (hgt was) (hgt blocks - hgt was) else zac
def zmF (was blocks : Nat) : Nat := if okN was ∧ okN blocks ∧ was ≤ blocks then 0 else 1
theorem zkB {E : Nat → H32} {root : H32} {was blocks : Nat} (h : okN was ∧ okN blocks ∧ was ≤ blocks) : zhj E root was blocks = zfP E root (hgt was) (hgt blocks - hgt was) ∧ zmF was blocks = 0 := by simp [zhj, zmF, h]
theorem zqD {E : Nat → H32} {root : H32} {was blocks : Nat} (h : ¬ (okN was ∧ okN blocks ∧ was ≤ blocks)) : zhj E root was blocks = zac ∧ zmF was blocks = 1 := by
 unfold zhj zmF; rw [if_neg h, if_neg h]; exact ⟨rfl, rfl⟩
def zau (a : Nat × Nat) : Value := .agg #[.int .i64 (a.1 : Int), .int .u64 (a.2 : Int)]
theorem zb1 {P : Program} {w : World} {T : TypeId} {k : IntKind} {xs : Array Value} {off : Nat} {v : Value} (ht : P.underlying T = some (.int k)) (hx : xs[off]? = some v) : (part T xs off).run P w = .ok v w :=
 run_part_plain w (by unfold Program.plainKey; rw [ht]) hx
theorem keyAt {P : Program} {T : TypeId} {f g : Field} (ht : P.underlying T = some (.struct #[f, g])) (hf : f.name ≠ "_") (hg : g.name ≠ "_") (hfo : f.offset = 0) (hgo : g.offset = 1)
  (hft : P.underlying f.type = some (.int .i64)) (hgt : P.underlying g.type = some (.int .u64)) (hp : P.stoodInHeld T = false) : KeyLaw P T zau where
 desc := ⟨_, ht, .inr fun _ _ => rfl⟩
 eq a b w := by
  have hfs : P.fieldsOf T = #[f, g] := by unfold Program.fieldsOf; rw [ht]
  have h : (Op.equalIn (9999 + 1) T (zau a) (zau b)).run P w = .ok (decide (a = b)) w := by
   unfold zau
   rw [run_equalIn_struct w 9999 T _ _ (by rw [ht, hfs]) hp, hfs]
   simp only [Op.eqFields, hf, hg, ne_eq, not_false_eq_true, if_true, Sem.run_bind]
   rw [zb1 (v := .int .i64 (a.1 : Int)) hft (by rw [hfo]; rfl), Result.andThen_ok, zb1 (v := .int .i64 (b.1 : Int)) hft (by rw [hfo]; rfl), Result.andThen_ok, run_equalIn_int w 9998 _ _ _ _ _ hft, Result.andThen_ok]
   by_cases h1 : a.1 = b.1
   ·rw [if_neg (by simp [h1]), Sem.run_bind, zb1 (v := .int .u64 (a.2 : Int)) hgt (by rw [hgo]; rfl), Result.andThen_ok, Sem.run_bind, zb1 (v := .int .u64 (b.2 : Int)) hgt (by rw [hgo]; rfl), Result.andThen_ok, Sem.run_bind, run_equalIn_int w 9998 _ _ _ _ _ hgt, Result.andThen_ok]
    by_cases h2 : a.2 = b.2
    ·rw [if_neg (by simp [h2])]
     have : a = b := Prod.ext h1 h2
     simp [this]
    ·rw [if_pos (by simp only [Bool.not_eq_true', beq_eq_false_iff_ne]; omega)]
     have : a ≠ b := fun e => h2 (by rw [e])
     simp [this]
   ·rw [if_pos (by simp only [Bool.not_eq_true', beq_eq_false_iff_ne]; omega)]
    have : a ≠ b := fun e => h1 (by rw [e])
    simp [this]
  exact h
 check e a w := by
  have h : (Instr.checkKey e (9999 + 1) T (zau a)).run P w = .ok () w := by
   unfold zau Instr.checkKey
   simp only [Sem.run_bind, run_underlying ht, Result.andThen_ok]
   have h1 : ∀ w : World, (Instr.checkKey e 9999 f.type (.int .i64 (a.1 : Int))).run P w = .ok () w := fun w => zdI hft 9998
   have h2 : ∀ w : World, (Instr.checkKey e 9999 g.type (.int .u64 (a.2 : Int))).run P w = .ok () w := fun w => zdI hgt 9998
   have p1 : ∀ w : World, (part f.type #[Value.int .i64 (a.1 : Int), .int .u64 (a.2 : Int)] f.offset).run P w = .ok (.int .i64 (a.1 : Int)) w := fun w => zb1 hft (by rw [hfo]; rfl)
   have p2 : ∀ w : World, (part g.type #[Value.int .i64 (a.1 : Int), .int .u64 (a.2 : Int)] g.offset).run P w = .ok (.int .u64 (a.2 : Int)) w := fun w => zb1 hgt (by rw [hgo]; rfl)
   rw [← Array.forIn_toList]
   simp only [List.forIn_cons, List.forIn_nil, hf, hg, ne_eq, not_false_eq_true, if_true, Sem.run_bind, p1, p2, h1, h2, Result.andThen_ok, Sem.run_pure]
  exact h
 bits a := by
  have h1 : ∀ n, Instr.sameBits n (.int .i64 (a.1 : Int)) (.int .i64 (a.1 : Int)) = (IntKind.i64 == IntKind.i64 && (a.1 : Int) == (a.1 : Int)) := fun n => by unfold Instr.sameBits; rfl
  have h2 : ∀ n, Instr.sameBits n (.int .u64 (a.2 : Int)) (.int .u64 (a.2 : Int)) = (IntKind.u64 == IntKind.u64 && (a.2 : Int) == (a.2 : Int)) := fun n => by unfold Instr.sameBits; rfl
  unfold zau Instr.sameBits
  simp [h1, h2]
def zar (E : Nat → H32) (height mb : Nat) : List Value := .int .i64 (height : Int) :: .map (some mb) :: hcs (zbd E)
theorem zlO {height l p : Nat} (h : l ≤ height) : p / 2 ^ (height - l) = 0 ↔ okAt height (l, p) := by
 rw [Nat.div_eq_zero_iff_lt (Nat.two_pow_pos _)]
 exact ⟨fun k => ⟨h, k⟩, fun k => k.2⟩
theorem zgu {height l p : Nat} (hh : height ≤ 32) (h : okAt height (l, p)) : l ≤ 32 ∧ p < 4294967296 := by
 refine ⟨Nat.le_trans h.1 hh, Nat.lt_of_lt_of_le h.2 ?_⟩
 exact Nat.pow_le_pow_right (n := 2) (by decide) (show height - l ≤ 32 by omega)
theorem zhD (E : Nat → H32) (ms : Tm) (a : Nat × Nat) {h : H32} (hl : look a ms = some h) : getT E ms a = h := by simp [getT, hl]
theorem zhE (E : Nat → H32) (ms : Tm) (a : Nat × Nat) (hl : look a ms = none) : getT E ms a = E a.1 := by simp [getT, hl]
theorem zsf {E : Nat → H32} {ms : Tm} {a : Nat × Nat} {h : H32} (e : h = E a.1) : putT E ms a h = delR a ms := if_pos e
theorem zsg {E : Nat → H32} {ms : Tm} {a : Nat × Nat} {h : H32} (e : h ≠ E a.1) : putT E ms a h = updR a h ms := if_neg e
variable {C : Ctx} {env : Env} {L : List Assn}
theorem Qt.build2 {T ty : TypeId} {dst : Option Tmp} {pos : String} {after : Array Edge} {guard : Option (Nat × Bool)} {i j : Nat} {x y : Operand} {a b v : Value} (hx : env.ev x = a) (hy : env.ev y = b)
  (h : ∀ w, (Instr.build T #[(i, a), (j, b)]).run C.P w = .ok v w) : Qt C L ⟨dst, .build T #[(i, x), (j, y)], ty, pos, after, guard⟩ env v := Qt.build (ps := #[(i, a), (j, b)]) (by simp [hx, hy]) h
theorem Ld.treeE {b o : Nat} {T T' : TypeId} {E : Nat → H32} {height mb : Nat} (h : Has C L (Blk b T' (zar E height mb))) (i : Nat) (hT : rowT C.P T = true) (hs : (C.P.info? T).map (·.size) = some 32) (hi : i < 33) (ho : o = 2 + i * 32) : Ld C L (some ⟨b, o, none⟩) T (hv (E i)) := by
 have hg := znO (l := zbd E) (i := i) (k := i * 32) (by rw [zaQ]; exact hi) rfl
 rw [zdJ E hi] at hg
 refine Ld.row h hT (by rw [zag]; exact hs) (fun j u hj => ?_)
 subst ho
 have := hg j u hj
 rw [zar, show 2 + i * 32 + j = i * 32 + j + 1 + 1 by omega, List.getElem?_cons_succ, List.getElem?_cons_succ]
 exact this
theorem zfW (i j : Nat) : i / 2 ^ j / 2 ^ 1 = i / 2 ^ (j + 1) := by rw [Nat.div_div_eq_div_mul, ← Nat.pow_add]
theorem zsh {height i : Nat} (hh : height ≤ 32) (hi : i < 2 ^ height) : i < 4294967296 :=
 Nat.lt_of_lt_of_le hi (show 2 ^ height ≤ 2 ^ 32 from Nat.pow_le_pow_right (by decide) hh)
theorem ok0 {height i : Nat} (h : i < 2 ^ height) : okAt height (0, i) := ⟨Nat.zero_le _, h⟩
def zcG (E : Nat → H32) (ms : Tm) (height i : Nat) : List H32 := (List.range height).map fun l => getT E ms (l, (i / 2 ^ l) ^^^ 1)
theorem zcS (E : Nat → H32) (ms : Tm) (height i : Nat) : (zcG E ms height i).length = height := by simp [zcG]
theorem zmG (E : Nat → H32) (ms : Tm) (k i : Nat) : hcs (zcG E ms k i) ++ hvl (getT E ms (k, (i / 2 ^ k) ^^^ 1)) = hcs (zcG E ms (k + 1) i) := by
 rw [zcG, zcG, List.range_succ, List.map_append, zbg]; simp [hcs]
theorem zlP {E : Nat → H32} {height : Nat} {f : Nat → H32} {ms : Tm} (ht : TreeOk E height f ms) {i : Nat} (hi : i < 2 ^ height) : zcG E ms height i = zqz f height i := by
 unfold zcG zqz
 refine List.map_congr_left fun l hl => ?_
 have hl' : l < height := List.mem_range.1 hl
 refine ht.get _ ⟨Nat.le_of_lt hl', ?_⟩
 have h1 := zd5 hi (Nat.le_of_lt hl')
 have h2 := zeQ hl'
 show i / 2 ^ l ^^^ 1 < 2 ^ (height - l)
 rw [zgo]
 generalize i / 2 ^ l = n at h1 ⊢
 generalize 2 ^ (height - l) = a at h1 h2 ⊢
 split <;> omega
end Go.E
namespace Go.E
structure Act where
 i : Nat
 h : H32
 d : Bool
 lt : i < 18446744073709551616
theorem zeu {α : Type} {encL : α → List Value} {sz : Nat} (hlen : ∀ a, (encL a).length = sz) : ∀ (xs : List α) (i : Nat) (x : α), xs[i]? = some x → ∀ j v, (encL x)[j]? = some v → (xs.flatMap encL)[i * sz + j]? = some v
 | [], i, x, h, j, v, hj => by simp at h
 | y :: xs, 0, x, h, j, v, hj => by
  obtain rfl : y = x := by simpa using h
  rw [List.flatMap_cons, List.getElem?_append_left (by rw [Nat.zero_mul, Nat.zero_add]; exact (List.getElem?_eq_some_iff.1 hj).1), Nat.zero_mul, Nat.zero_add]
  exact hj
 | y :: xs, i + 1, x, h, j, v, hj => by
  have e : (i + 1) * sz + j = sz + (i * sz + j) := by rw [Nat.add_mul, Nat.one_mul]; omega
  rw [List.flatMap_cons, e, List.getElem?_append_right (by rw [hlen]; omega), hlen, Nat.add_sub_cancel_left]
  exact zeu hlen xs i x (by simpa using h) j v hj
theorem getD_some {α : Type} {xs : List α} {k : Nat} (d : α) (h : k < xs.length) : xs[k]? = some (xs.getD k d) := by simp [List.getD, h]
theorem zji (f : Nat → H32) {height i k : Nat} (h : k < height) : (zqz f height i).getD k zac = zbq f k ((i / 2 ^ k) ^^^ 1) := by simp [zqz, List.getD, h]
theorem zqE (f : Nat → H32) {i k : Nat} (h : i / 2 ^ k % 2 = 1) : zbq f (k + 1) (i / 2 ^ (k + 1)) = zbj (k + 1) (zbq f k ((i / 2 ^ k) ^^^ 1)) (zbq f k (i / 2 ^ k)) := by
 rw [zbq, ← zfW, zgo, if_neg ow]
 rw [Nat.pow_one]
 congr 2 <;> congr 1 <;> omega
theorem zoe (f : Nat → H32) {i k : Nat} (h : ¬ i / 2 ^ k % 2 = 1) : zbq f (k + 1) (i / 2 ^ (k + 1)) = zbj (k + 1) (zbq f k (i / 2 ^ k)) (zbq f k ((i / 2 ^ k) ^^^ 1)) := by
 rw [zbq, ← zfW, zgo, if_pos ow]
 rw [Nat.pow_one]
 congr 2 <;> congr 1 <;> omega
theorem zek (height : Nat) : okAt height (height, 0) := ⟨Nat.le_refl _, by simp⟩
variable {C : Ctx} {env : Env} {L : List Assn}
theorem Qt.fieldS {T ty : TypeId} {dst : Option Tmp} {pos : String} {after : Array Edge} {guard : Option (Nat × Bool)} {x : Operand} {fs : Array Field} {f : Field} {i k sz : Nat} {A : OAd} {cs : List Value}
  (hT : C.P.underlying T = some (.struct fs)) (hf : fs[i]? = some f) (hs : (C.P.info? f.type).map (·.size) = some (sz + 1)) (hx : env.ev x = .pointer (A.map (·.add k))) (h : Has C L (SlA A cs)) (hc : k < cs.length) :
  Qt C L ⟨dst, .fieldAddr T x i, ty, pos, after, guard⟩ env (.pointer (A.map (·.add (k + f.offset)))) := fun w hw => by
 obtain ⟨inf, hin, hsz⟩ := Option.map_eq_some_iff.1 hs
 obtain ⟨a, rfl, _⟩ := h w hw _ _ (List.getElem?_eq_getElem hc)
 simp [execOp, hx, Instr.fieldAt, Instr.sureAddr, run_underlying hT, hf, fieldPlace, sizeOf, typeInfo, hin, hsz, add_add]
end Go.E
namespace Go.E
abbrev Ls := List (Nat × H32)
theorem zbk {α : Type} {ls : List α} {k : Nat} (d : α) (h : k < ls.length) : ls.getD k d ∈ ls := by
 have : ls.getD k d = ls[k] := by simp [List.getD, h]
 rw [this]; exact List.getElem_mem h
theorem zaJ {α : Type} (a : List α) (x : α) : (a ++ [x]).length = a.length + 1 := by simp
theorem zmH {height l p : Nat} (hh : height ≤ 32) (h : okAt height (l, p)) : (p + 1) * 2 ^ l ≤ 9223372036854775808 := by
 obtain ⟨h1, h2⟩ := h
 have h1' : l ≤ height := h1
 have h2' : p + 1 ≤ 2 ^ (height - l) := h2
 have h3 : (p + 1) * 2 ^ l ≤ 2 ^ (height - l) * 2 ^ l := Nat.mul_le_mul_right _ h2'
 rw [← Nat.pow_add, show height - l + l = height by omega] at h3
 have h4 : 2 ^ height ≤ 2 ^ 32 := Nat.pow_le_pow_right (by decide) hh
 omega
def zaz (x : H32) (i : Nat) (ps : List H32) : Nat → H32
 | 0 => x
 | k + 1 => if i / 2 ^ k % 2 = 1 then zbj (k + 1) (ps.getD k zac) (zaz x i ps k) else zbj (k + 1) (zaz x i ps k) (ps.getD k zac)
def zbt (x : H32) (i : Nat) (ps : List H32) : H32 := zaz x i ps ps.length
theorem zdL {x : H32} {i : Nat} {ps : List H32} {k : Nat} (h : i / 2 ^ k % 2 = 1) : zaz x i ps (k + 1) = zbj (k + 1) (ps.getD k zac) (zaz x i ps k) := by rw [zaz, if_pos h]
theorem zc7 {x : H32} {i : Nat} {ps : List H32} {k : Nat} (h : ¬ i / 2 ^ k % 2 = 1) : zaz x i ps (k + 1) = zbj (k + 1) (zaz x i ps k) (ps.getD k zac) := by rw [zaz, if_neg h]
def zdk (i n : Nat) : Prop := n ≤ 32 ∧ i / 2 ^ n = 0
instance (i n : Nat) : Decidable (zdk i n) := inferInstanceAs (Decidable (_ ∧ _))
def cutP (E : Nat → H32) (ps : List H32) (a n k : Nat) : List H32 := (List.range n).map fun i => if i < k ∧ a / 2 ^ i % 2 = 0 then E i else ps.getD i zac
theorem zbn (E : Nat → H32) (ps : List H32) (a n k : Nat) : (cutP E ps a n k).length = n := by simp [cutP]
theorem zof (E : Nat → H32) {ps : List H32} (a : Nat) {n : Nat} (h : n ≤ ps.length) : cutP E ps a n 0 = ps.take n := by
 refine List.ext_getElem (by rw [zbn, List.length_take]; omega) fun i h1 h2 => ?_
 rw [zbn] at h1
 simp [cutP, List.getD, show i < ps.length by omega]
theorem zog (E : Nat → H32) (ps : List H32) {a n k : Nat} (hk : k < n) (h : a / 2 ^ k % 2 = 0) : (cutP E ps a n k).set k (E k) = cutP E ps a n (k + 1) := by
 refine List.ext_getElem (by rw [List.length_set, zbn, zbn]) fun i h1 h2 => ?_
 rw [List.getElem_set]
 by_cases e : k = i
 ·subst e; simp [cutP, h]
 ·rw [if_neg e]
  have : i < k + 1 ↔ i < k := by omega
  simp [cutP, this]
theorem zqF (E : Nat → H32) (ps : List H32) {a n k : Nat} (h : ¬ a / 2 ^ k % 2 = 0) : cutP E ps a n k = cutP E ps a n (k + 1) := by
 unfold cutP
 refine List.map_congr_left fun i _ => ?_
 by_cases e : i = k
 ·subst e; simp [h]
 ·have : i < k + 1 ↔ i < k := by omega
  simp [this]
def cutR (E : Nat → H32) (root x : H32) (ps : List H32) (was blocks : Nat) : H32 × Nat :=
 if ¬ (okN was ∧ okN blocks ∧ blocks ≤ was) then (zac, 1) else if ps.length ≠ hgt was then (zac, 2) else if zbt x (blocks - 1) ps ≠ root then (zac, 5)
 else (zbt x (blocks - 1) (cutP E ps (blocks - 1) (hgt blocks) (hgt blocks)), 0)
theorem zrK {E : Nat → H32} {root x : H32} {ps : List H32} {was blocks : Nat} (h : ¬ (okN was ∧ okN blocks ∧ blocks ≤ was)) : cutR E root x ps was blocks = (zac, 1) := by rw [cutR, if_pos h]
theorem zrL {E : Nat → H32} {root x : H32} {ps : List H32} {was blocks : Nat} (h : okN was ∧ okN blocks ∧ blocks ≤ was) (h2 : ps.length ≠ hgt was) : cutR E root x ps was blocks = (zac, 2) := by rw [cutR, if_neg (fun k => k h), if_pos h2]
theorem zrM {E : Nat → H32} {root x : H32} {ps : List H32} {was blocks : Nat} (h : okN was ∧ okN blocks ∧ blocks ≤ was) (h2 : ps.length = hgt was) (h3 : zbt x (blocks - 1) ps ≠ root) : cutR E root x ps was blocks = (zac, 5) := by
 rw [cutR, if_neg (fun k => k h), if_neg (fun k => k h2), if_pos h3]
theorem zrN {E : Nat → H32} {root x : H32} {ps : List H32} {was blocks : Nat} (h : okN was ∧ okN blocks ∧ blocks ≤ was) (h2 : ps.length = hgt was) (h3 : zbt x (blocks - 1) ps = root) :
  cutR E root x ps was blocks = (zbt x (blocks - 1) (cutP E ps (blocks - 1) (hgt blocks) (hgt blocks)), 0) := by
 rw [cutR, if_neg (fun k => k h), if_neg (fun k => k h2), if_neg (fun k => k h3)]
theorem zeT {n m : Nat} (hn : okN n) (hm : okN m) (h : n ≤ m) : zdk (n - 1) (hgt m) := by
 refine ⟨zb0 hm, Nat.div_eq_of_lt ?_⟩
 have := zdA hm
 obtain ⟨h1, _⟩ := hn
 omega
theorem zay (i k : Nat) : i / 2 ^ k / 2 = i / 2 ^ (k + 1) := by rw [← zfW, Nat.pow_one]
theorem zgv (l : List H32) (rest : List Value) (i : Nat) (x : H32) (h : i < l.length) : (hcs l ++ rest).take (i * 32) ++ vl (hv x) ++ (hcs l ++ rest).drop (i * 32 + (vl (hv x)).length) = hcs (l.set i x) ++ rest := by
 have hl := zah l
 have h1 : i * 32 + 32 ≤ (hcs l).length := by rw [hl]; omega
 rw [List.take_append_of_le_length ow, List.drop_append_of_le_length (by rw [zaf]; exact h1), ← List.append_assoc, zn1 l i x h]
theorem zbQ (x : H32) (v : Value) : (vl (.agg (hvl x ++ [v]).toArray))[32]? = some v := by
 rw [zav, List.getElem?_append_right (by rw [zag]; exact Nat.le_refl _), zag]; rfl
theorem zcT (x : H32) (u : Value) : ∀ j v, (hvl x)[j]? = some v → (vl (.agg (hvl x ++ [u]).toArray))[0 + j]? = some v := fun j v h => by
 rw [zav, Nat.zero_add, List.getElem?_append_left (List.getElem?_eq_some_iff.1 h).1]; exact h
theorem zbI (x : H32) (u : Value) : (hvl x ++ [u]).length = 33 := by simp [zag]
theorem zhF {xs : List H32} (h : hcs xs = []) : xs = [] := by
 have := congrArg List.length h
 rw [zah] at this
 exact List.eq_nil_of_length_eq_zero (by simp at this; omega)
variable {C : Ctx} {Q : EQ} {env : Env} {ops : Array Oper}
theorem TL.openOwnP {e : TypeId} {sz : Nat} {A : OAd} {n c : Nat} {xs : List Value} {L : List Assn} {l : List Oper} (hn : 0 < n)
  (h1 : ∀ g cs, A = some ⟨g, 0, none⟩ → cs.take (n * sz) = xs → cs.length = c * sz → n ≤ c → c ≤ maxLen → TL C ops Q l env (Blk g e cs :: L)) : TL C ops Q l env (OwnA e sz A n c xs :: L) := fun a w ha hw => by
 have hok := hw.ok (A := OwnA e sz A n c xs) (List.mem_cons_self ..)
 rcases OwnA.blk hok with ⟨rfl, rfl, rfl, rfl⟩ | ⟨g, cs, rfl, hb, ht, hl, hn, hm⟩
 ·exact absurd hn (Nat.lt_irrefl 0)
 ·have hw' : St C.w0 C.M ([] ++ OwnA e sz (some ⟨g, 0, none⟩) n c xs :: L) w := hw
  exact h1 g cs rfl ht hl hn hm a w ha (hw'.upd (A' := Blk g e cs) rfl rfl rfl rfl rfl (fun _ _ => rfl) hb)
theorem zjj {n : Nat} {cs : List Value} {xs : List H32} (h : cs.take (n * 32) = hcs xs) : cs = hcs xs ++ cs.drop (n * 32) := by rw [← h, List.take_append_drop]
end Go.E
