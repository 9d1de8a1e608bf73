/-
  The law of keys that are a level and a place. Plain words: scripts of acts upon a tree, and what is left of them. Plain words: the document's tree, a list of leaves. Plain words: climbing from a leaf, and cutting.
-/
import Derived.Test.YtgdjcmehlhebdaaGreatDoorTR
import Derived.Test.YtgdjcmehlhebdaaGreatDoorGR
import Derived.Test.YtgdjcmehlhebdaaGreatDoorE2
import Derived.Laws.StructEq
import Derived.ChangeKeysEq
namespace Go.E
set_option linter.unusedVariables false
def encAt (a : Nat × Nat) : Value := .agg #[.int .i64 (a.1 : Int), .int .u64 (a.2 : Int)]
theorem run_part_int {P : Program} {w : World} {T : TypeId} {k : IntKind} {xs : Array Value} {off : Nat} {v : Value} (ht : P.underlying T = some (.int k)) (hx : xs[off]? = some v) : (part T xs off).run P w = .ok v w :=
  run_part_plain w (by unfold Program.plainKey; rw [ht]) hx
theorem keyAt {P : Program} {T : TypeId} {f g : Field} (ht : P.underlying T = some (.struct #[f, g])) (hf : f.name ≠ "_") (hg : g.name ≠ "_") (hfo : f.offset = 0) (hgo : g.offset = 1)
    (hft : P.underlying f.type = some (.int .i64)) (hgt : P.underlying g.type = some (.int .u64)) (hp : P.stoodInHeld T = false) : KeyLaw P T encAt where
  desc := ⟨_, ht, .inr fun _ _ => rfl⟩
  eq a b w := by
    have hfs : P.fieldsOf T = #[f, g] := by unfold Program.fieldsOf; rw [ht]
    have h : (Op.equalIn (9999 + 1) T (encAt a) (encAt b)).run P w = .ok (decide (a = b)) w := by
      unfold encAt
      rw [run_equalIn_struct w 9999 T _ _ (by rw [ht, hfs]) hp, hfs]
      simp only [Op.eqFields, hf, hg, ne_eq, not_false_eq_true, if_true, Sem.run_bind]
      rw [run_part_int (v := .int .i64 (a.1 : Int)) hft (by rw [hfo]; rfl), Result.andThen_ok, run_part_int (v := .int .i64 (b.1 : Int)) hft (by rw [hfo]; rfl), Result.andThen_ok, run_equalIn_int w 9998 _ _ _ _ _ hft, Result.andThen_ok]
      by_cases h1 : a.1 = b.1
      · rw [if_neg (by simp [h1]), Sem.run_bind, run_part_int (v := .int .u64 (a.2 : Int)) hgt (by rw [hgo]; rfl), Result.andThen_ok, Sem.run_bind, run_part_int (v := .int .u64 (b.2 : Int)) hgt (by rw [hgo]; rfl), Result.andThen_ok, Sem.run_bind, run_equalIn_int w 9998 _ _ _ _ _ hgt, Result.andThen_ok]
        by_cases h2 : a.2 = b.2
        · rw [if_neg (by simp [h2])]
          have : a = b := Prod.ext h1 h2
          simp [this]
        · rw [if_pos (by simp only [Bool.not_eq_true', beq_eq_false_iff_ne]; omega)]
          have : a ≠ b := fun e => h2 (by rw [e])
          simp [this]
      · rw [if_pos (by simp only [Bool.not_eq_true', beq_eq_false_iff_ne]; omega)]
        have : a ≠ b := fun e => h1 (by rw [e])
        simp [this]
    exact h
  check e a w := by
    have h : (Instr.checkKey e (9999 + 1) T (encAt a)).run P w = .ok () w := by
      unfold encAt Instr.checkKey
      simp only [Sem.run_bind, run_underlying ht, Result.andThen_ok]
      have h1 : ∀ w : World, (Instr.checkKey e 9999 f.type (.int .i64 (a.1 : Int))).run P w = .ok () w := fun w => checkKey_int hft 9998
      have h2 : ∀ w : World, (Instr.checkKey e 9999 g.type (.int .u64 (a.2 : Int))).run P w = .ok () w := fun w => checkKey_int hgt 9998
      have p1 : ∀ w : World, (part f.type #[Value.int .i64 (a.1 : Int), .int .u64 (a.2 : Int)] f.offset).run P w = .ok (.int .i64 (a.1 : Int)) w := fun w => run_part_int hft (by rw [hfo]; rfl)
      have p2 : ∀ w : World, (part g.type #[Value.int .i64 (a.1 : Int), .int .u64 (a.2 : Int)] g.offset).run P w = .ok (.int .u64 (a.2 : Int)) w := fun w => run_part_int hgt (by rw [hgo]; rfl)
      rw [← Array.forIn_toList]
      simp only [List.forIn_cons, List.forIn_nil, hf, hg, ne_eq, not_false_eq_true, if_true, Sem.run_bind, p1, p2, h1, h2, Result.andThen_ok, Sem.run_pure]
    exact h
  bits a := by
    have h1 : ∀ n, Instr.sameBits n (.int .i64 (a.1 : Int)) (.int .i64 (a.1 : Int)) = (IntKind.i64 == IntKind.i64 && (a.1 : Int) == (a.1 : Int)) := fun n => by unfold Instr.sameBits; rfl
    have h2 : ∀ n, Instr.sameBits n (.int .u64 (a.2 : Int)) (.int .u64 (a.2 : Int)) = (IntKind.u64 == IntKind.u64 && (a.2 : Int) == (a.2 : Int)) := fun n => by unfold Instr.sameBits; rfl
    unfold encAt Instr.sameBits
    simp [h1, h2]
/-- The cells of a tree. -/
def treeCs (E : Nat → H32) (height mb : Nat) : List Value := .int .i64 (height : Int) :: .map (some mb) :: hcs (emptL E)
theorem okAt_iff {height l p : Nat} (h : l ≤ height) : p / 2 ^ (height - l) = 0 ↔ okAt height (l, p) := by
  rw [Nat.div_eq_zero_iff_lt (Nat.two_pow_pos _)]
  exact ⟨fun k => ⟨h, k⟩, fun k => k.2⟩
theorem okAt_lt {height l p : Nat} (hh : height ≤ 32) (h : okAt height (l, p)) : l ≤ 32 ∧ p < 4294967296 := by
  refine ⟨Nat.le_trans h.1 hh, Nat.lt_of_lt_of_le h.2 ?_⟩
  exact Nat.pow_le_pow_right (n := 2) (by decide) (show height - l ≤ 32 by omega)
theorem valOr_look (E : Nat → H32) (ms : Tm) (a : Nat × Nat) {h : H32} (hl : look a ms = some h) : getT E ms a = h := by simp [getT, hl]
theorem valOr_none (E : Nat → H32) (ms : Tm) (a : Nat × Nat) (hl : look a ms = none) : getT E ms a = E a.1 := by simp [getT, hl]
variable {C : Ctx} {env : Env} {L : List Assn}
/-- A literal of two fields. -/
theorem Qt.build2 {T ty : TypeId} {dst : Option Tmp} {pos : String} {after : Array Edge} {guard : Option (Nat × Bool)} {i j : Nat} {x y : Operand} {a b v : Value} (hx : env.ev x = a) (hy : env.ev y = b)
    (h : ∀ w, (Instr.build T #[(i, a), (j, b)]).run C.P w = .ok v w) : Qt C L ⟨dst, .build T #[(i, x), (j, y)], ty, pos, after, guard⟩ env v := Qt.build (ps := #[(i, a), (j, b)]) (by simp [hx, hy]) h
/-- The empty hash of a level, in a tree's own cells. -/
theorem Ld.treeE {b o : Nat} {T T' : TypeId} {E : Nat → H32} {height mb : Nat} (h : Has C L (Blk b T' (treeCs E height mb))) (i : Nat) (hT : rowT C.P T = true) (hs : (C.P.info? T).map (·.size) = some 32) (hi : i < 33) (ho : o = 2 + i * 32) : Ld C L (some ⟨b, o, none⟩) T (hv (E i)) := by
  have hg := hcs_at (l := emptL E) (i := i) (k := i * 32) (by rw [emptL_length]; exact hi) rfl
  rw [emptL_get E hi] at hg
  refine Ld.row h hT (by rw [hvl_length]; exact hs) (fun j u hj => ?_)
  subst ho
  have := hg j u hj
  rw [treeCs, show 2 + i * 32 + j = i * 32 + j + 1 + 1 by omega, List.getElem?_cons_succ, List.getElem?_cons_succ]
  exact this
theorem half_pow (i j : Nat) : i / 2 ^ j / 2 ^ 1 = i / 2 ^ (j + 1) := by rw [Nat.div_div_eq_div_mul, ← Nat.pow_add]
theorem pow32 {height i : Nat} (hh : height ≤ 32) (hi : i < 2 ^ height) : i < 4294967296 :=
  Nat.lt_of_lt_of_le hi (show 2 ^ height ≤ 2 ^ 32 from Nat.pow_le_pow_right (by decide) hh)
theorem ok0 {height i : Nat} (h : i < 2 ^ height) : okAt height (0, i) := ⟨Nat.zero_le _, h⟩
/-- The nodes beside the way up, read from a tree. -/
def pathT (E : Nat → H32) (ms : Tm) (height i : Nat) : List H32 := (List.range height).map fun l => getT E ms (l, (i / 2 ^ l) ^^^ 1)
theorem pathT_length (E : Nat → H32) (ms : Tm) (height i : Nat) : (pathT E ms height i).length = height := by simp [pathT]
theorem pathT_step (E : Nat → H32) (ms : Tm) (k i : Nat) : hcs (pathT E ms k i) ++ hvl (getT E ms (k, (i / 2 ^ k) ^^^ 1)) = hcs (pathT E ms (k + 1) i) := by
  rw [pathT, pathT, List.range_succ, List.map_append, hcs_append]; simp [hcs]
end Go.E
namespace Go.E
set_option linter.unusedVariables false
structure Act where
  i : Nat
  h : H32
  d : Bool
  lt : i < 18446744073709551616
def act0 : Act := ⟨0, zeroH, false, by decide⟩
theorem flat_at {α : Type} {encL : α → List Value} {sz : Nat} (hlen : ∀ a, (encL a).length = sz) : ∀ (xs : List α) (i : Nat) (x : α), xs[i]? = some x → ∀ j v, (encL x)[j]? = some v → (xs.flatMap encL)[i * sz + j]? = some v
  | [], i, x, h, j, v, hj => by simp at h
  | y :: xs, 0, x, h, j, v, hj => by
    obtain rfl : y = x := by simpa using h
    rw [List.flatMap_cons, List.getElem?_append_left (by rw [Nat.zero_mul, Nat.zero_add]; exact (List.getElem?_eq_some_iff.1 hj).1), Nat.zero_mul, Nat.zero_add]
    exact hj
  | y :: xs, i + 1, x, h, j, v, hj => by
    have e : (i + 1) * sz + j = sz + (i * sz + j) := by rw [Nat.add_mul, Nat.one_mul]; omega
    rw [List.flatMap_cons, e, List.getElem?_append_right (by rw [hlen]; omega), hlen, Nat.add_sub_cancel_left]
    exact flat_at hlen xs i x (by simpa using h) j v hj
theorem flat_len {α : Type} {encL : α → List Value} {sz : Nat} (hlen : ∀ a, (encL a).length = sz) : ∀ xs : List α, (xs.flatMap encL).length = xs.length * sz
  | [] => by simp
  | x :: xs => by rw [List.flatMap_cons, List.length_append, hlen, flat_len hlen xs, List.length_cons, Nat.add_mul, Nat.one_mul, Nat.add_comm]
theorem getD_some {α : Type} {xs : List α} {k : Nat} (d : α) (h : k < xs.length) : xs[k]? = some (xs.getD k d) := by simp [List.getD, h]
/-- The last hash laid at each index that a tree has. -/
structure LastOk (E : Nat → H32) (height : Nat) (xs : List Act) (k : Nat) (f : Nat → H32) (last : Ms) : Prop where
  val : ∀ j, f j = (look j last).getD (E 0)
  key : ∀ j h, look j last = some h → j < 2 ^ height ∧ j ∈ (xs.take k).map (·.i)
theorem LastOk.zero {E : Nat → H32} {height : Nat} {xs : List Act} : LastOk E height xs 0 (fun _ => E 0) [] := ⟨fun j => rfl, fun j h hl => by cases hl⟩
theorem take_mem {xs : List Act} {k : Nat} (h : k < xs.length) : (xs.take (k + 1)).map (·.i) = (xs.take k).map (·.i) ++ [(xs.getD k act0).i] := by
  rw [List.take_succ_eq_append_getElem h, List.map_append]; simp [List.getD, h]
theorem LastOk.step {E : Nat → H32} {height : Nat} {xs : List Act} {k : Nat} {f : Nat → H32} {last : Ms} (h : LastOk E height xs k f last) (hk : k < xs.length) (hs : (xs.getD k act0).i < 2 ^ height) :
    LastOk E height xs (k + 1) (updF f (xs.getD k act0).i (xs.getD k act0).h) (updR (xs.getD k act0).i (xs.getD k act0).h last) where
  val j := by
    rw [look_upd, updF]
    split
    · rfl
    · exact h.val j
  key j x hl := by
    rw [take_mem hk, List.mem_append, List.mem_singleton]
    rw [look_upd] at hl
    split at hl
    · rename_i e; subst e; exact ⟨hs, .inr rfl⟩
    · obtain ⟨h1, h2⟩ := h.key j x hl; exact ⟨h1, .inl h2⟩
theorem LastOk.skip {E : Nat → H32} {height : Nat} {xs : List Act} {k : Nat} {f : Nat → H32} {last : Ms} (h : LastOk E height xs k f last) (hk : k < xs.length) : LastOk E height xs (k + 1) f last where
  val := h.val
  key j x hl := by
    rw [take_mem hk, List.mem_append]
    obtain ⟨h1, h2⟩ := h.key j x hl; exact ⟨h1, .inl h2⟩
/-- The same leaves, laid from the end. -/
def BackOk (E : Nat → H32) (xs : List Act) (c : Nat) (last : Ms) (g : Nat → H32) : Prop := ∀ j, g j = if j ∈ (xs.drop c).map (·.i) then (look j last).getD (E 0) else E 0
theorem BackOk.zero {E : Nat → H32} {xs : List Act} {last : Ms} : BackOk E xs xs.length last (fun _ => E 0) := fun j => by simp
theorem drop_mem {xs : List Act} {c : Nat} (h0 : 1 ≤ c) (h : c ≤ xs.length) : (xs.drop (c - 1)).map (·.i) = (xs.getD (c - 1) act0).i :: (xs.drop c).map (·.i) := by
  have h1 : c - 1 < xs.length := by omega
  rw [List.drop_eq_getElem_cons h1, List.map_cons, show c - 1 + 1 = c by omega]
  simp [List.getD, h1]
theorem BackOk.step {E : Nat → H32} {xs : List Act} {c : Nat} {last : Ms} {g : Nat → H32} {h : H32} (hb : BackOk E xs c last g) (h0 : 1 ≤ c) (hc : c ≤ xs.length) (hl : look (xs.getD (c - 1) act0).i last = some h) :
    BackOk E xs (c - 1) last (updF g (xs.getD (c - 1) act0).i h) := fun j => by
  rw [drop_mem h0 hc, updF]
  generalize (xs.getD (c - 1) act0).i = q at hl ⊢
  by_cases e : j = q
  · subst e; simp [hl]
  · rw [if_neg e, hb j]; simp only [List.mem_cons, e, false_or]
theorem BackOk.skip {E : Nat → H32} {xs : List Act} {c : Nat} {last : Ms} {g : Nat → H32} (hb : BackOk E xs c last g) (h0 : 1 ≤ c) (hc : c ≤ xs.length) (hl : look (xs.getD (c - 1) act0).i last = none) :
    BackOk E xs (c - 1) last g := fun j => by
  rw [drop_mem h0 hc]
  generalize (xs.getD (c - 1) act0).i = q at hl ⊢
  by_cases e : j = q
  · subst e; rw [hb, hl]; simp
  · rw [hb j]; simp only [List.mem_cons, e, false_or]
theorem BackOk.done {E : Nat → H32} {height : Nat} {xs : List Act} {k : Nat} {f g : Nat → H32} {last : Ms} (hb : BackOk E xs 0 last g) (h : LastOk E height xs k f last) : g = f := funext fun j => by
  rw [hb j, h.val j]
  split
  · rfl
  · rename_i hn
    cases hl : look j last with
    | none => rfl
    | some x =>
      refine absurd ?_ hn
      obtain ⟨_, h2⟩ := h.key j x hl
      rw [List.drop_zero]
      obtain ⟨a, ha, rfl⟩ := List.mem_map.1 h2
      exact List.mem_map.2 ⟨a, List.mem_of_mem_take ha, rfl⟩
theorem okRoot (height : Nat) : okAt height (height, 0) := ⟨Nat.le_refl _, by simp⟩
variable {C : Ctx} {env : Env} {L : List Assn}
/-- A field of a slice's element. -/
theorem Qt.fieldS {T ty : TypeId} {dst : Option Tmp} {pos : String} {after : Array Edge} {guard : Option (Nat × Bool)} {x : Operand} {fs : Array Field} {f : Field} {i k sz : Nat} {A : Option Addr} {cs : List Value}
    (hT : C.P.underlying T = some (.struct fs)) (hf : fs[i]? = some f) (hs : (C.P.info? f.type).map (·.size) = some (sz + 1)) (hx : env.ev x = .pointer (A.map (·.add k))) (h : Has C L (SlA A cs)) (hc : k < cs.length) :
    Qt C L ⟨dst, .fieldAddr T x i, ty, pos, after, guard⟩ env (.pointer (A.map (·.add (k + f.offset)))) := fun w hw => by
  obtain ⟨inf, hin, hsz⟩ := Option.map_eq_some_iff.1 hs
  obtain ⟨a, rfl, _⟩ := h w hw _ _ (List.getElem?_eq_getElem hc)
  simp [execOp, hx, Instr.fieldAt, Instr.sureAddr, run_underlying hT, hf, fieldPlace, sizeOf, typeInfo, hin, hsz, add_add]
end Go.E
namespace Go.E
set_option linter.unusedVariables false
abbrev Ls := List (Nat × H32)
def leaf0 : Nat × H32 := (0, zeroH)
/-- The leaves, as a function. -/
def fL (E : Nat → H32) (ls : Ls) (j : Nat) : H32 := (look j ls).getD (E 0)
theorem take_all {α : Type} (ls : List α) {k : Nat} (h : ls.length ≤ k) : ls.take k = ls := List.take_of_length_le h
theorem getD_mem {α : Type} {ls : List α} {k : Nat} (d : α) (h : k < ls.length) : ls.getD k d ∈ ls := by
  have : ls.getD k d = ls[k] := by simp [List.getD, h]
  rw [this]; exact List.getElem_mem h
/-- What stands in the new list when so many leaves were gone through. -/
structure PutOk (i : Nat) (h : H32) (d0 : Bool) (ls : Ls) (k : Nat) (done : Bool) (out : Ls) : Prop where
  oth : ∀ j, j ≠ i → look j out = look j (ls.take k)
  own : look i out = if done = true ∧ d0 = false then some h else none
  mono : d0 = true → done = true
  len : out.length ≤ k + (if done = true ∧ d0 = false then 1 else 0)
  low : ∀ x ∈ out, x.1 < 18446744073709551616
theorem PutOk.zero (i : Nat) (h : H32) (d0 : Bool) (ls : Ls) : PutOk i h d0 ls 0 d0 [] := ⟨fun j _ => rfl, by cases d0 <;> rfl, id, Nat.zero_le _, fun x hx => by cases hx⟩
theorem take_one {ls : Ls} {k : Nat} (h : k < ls.length) : ls.take (k + 1) = ls.take k ++ [ls.getD k leaf0] := by
  rw [List.take_succ_eq_append_getElem h]; simp [List.getD, h]
theorem PutOk.keep {i : Nat} {h : H32} {d0 d : Bool} {ls : Ls} {k : Nat} {out : Ls} (p : PutOk i h d0 ls k d out) (hk : k < ls.length) (hne : (ls.getD k leaf0).1 ≠ i) (hl : (ls.getD k leaf0).1 < 18446744073709551616) :
    PutOk i h d0 ls (k + 1) d (out ++ [ls.getD k leaf0]) := by
  refine ⟨fun j hj => ?_, ?_, p.mono, ?_, fun x hx => ?_⟩
  · rw [take_one hk, look_append, look_append, p.oth j hj]
  · have h1 : look i [ls.getD k leaf0] = none := by rw [look_cons, if_neg (fun e => hne e.symm), look_nil]
    rw [look_append, p.own, h1, Option.or_none]
  · have := p.len; rw [List.length_append, List.length_singleton]; omega
  · rcases List.mem_append.1 hx with h1 | h1
    · exact p.low x h1
    · rw [List.mem_singleton.1 h1]; exact hl
theorem PutOk.drop {i : Nat} {h : H32} {d0 d : Bool} {ls : Ls} {k : Nat} {out : Ls} (p : PutOk i h d0 ls k d out) (hk : k < ls.length) (he : (ls.getD k leaf0).1 = i) : PutOk i h d0 ls (k + 1) d out := by
  refine ⟨fun j hj => ?_, p.own, p.mono, by have := p.len; omega, p.low⟩
  rw [take_one hk, look_append, look_cons, if_neg (fun e => hj (e.trans he)), look_nil, p.oth j hj]; simp
/-- One leaf set. -/
structure LsSet (E : Nat → H32) (ls : Ls) (i : Nat) (h : H32) (ls' : Ls) : Prop where
  val : ∀ j, fL E ls' j = updF (fL E ls) i h j
  len : ls'.length ≤ ls.length + 1
  low : ∀ x ∈ ls', x.1 < 18446744073709551616
theorem PutOk.end {E : Nat → H32} {i : Nat} {h : H32} {d0 : Bool} {ls : Ls} {k : Nat} {out : Ls} (p : PutOk i h d0 ls k true out) (hd : d0 = true → h = E 0) (hk : k = ls.length) : LsSet E ls i h out where
  val j := by
    subst hk
    unfold updF fL
    by_cases hj : j = i
    · subst hj
      rw [if_pos rfl, p.own]
      cases d0
      · simp
      · simp [hd rfl]
    · rw [if_neg hj, p.oth j hj, List.take_length]
  len := by have := p.len; subst hk; split at this <;> omega
  low := p.low
theorem len_snoc {α : Type} (a : List α) (x : α) : (a ++ [x]).length = a.length + 1 := by simp
theorem okAt_bound {height l p : Nat} (hh : height ≤ 32) (h : okAt height (l, p)) : (p + 1) * 2 ^ l ≤ 9223372036854775808 := by
  obtain ⟨h1, h2⟩ := h
  have h1' : l ≤ height := h1
  have h2' : p + 1 ≤ 2 ^ (height - l) := h2
  have h3 : (p + 1) * 2 ^ l ≤ 2 ^ (height - l) * 2 ^ l := Nat.mul_le_mul_right _ h2'
  rw [← Nat.pow_add, show height - l + l = height by omega] at h3
  have h4 : 2 ^ height ≤ 2 ^ 32 := Nat.pow_le_pow_right (by decide) hh
  omega
theorem LsSet.tree {E : Nat → H32} {height : Nat} {ls ls2 : Ls} {ms : Tm} {i : Nat} {h : H32} (p : LsSet E ls i h ls2) (ht : TreeOk E height (fL E ls) ms) (hi : i < 2 ^ height) : TreeOk E height (fL E ls2) (setK E ms i h height) := by
  have : fL E ls2 = updF (fL E ls) i h := funext p.val
  rw [this]; exact ht.set hi h
end Go.E
namespace Go.E
set_option linter.unusedVariables false
def climbK (x : H32) (i : Nat) (ps : List H32) : Nat → H32
  | 0 => x
  | k + 1 => if i / 2 ^ k % 2 = 1 then joinH (k + 1) (ps.getD k zeroH) (climbK x i ps k) else joinH (k + 1) (climbK x i ps k) (ps.getD k zeroH)
def climbH (x : H32) (i : Nat) (ps : List H32) : H32 := climbK x i ps ps.length
theorem climb_odd {x : H32} {i : Nat} {ps : List H32} {k : Nat} (h : i / 2 ^ k % 2 = 1) : climbK x i ps (k + 1) = joinH (k + 1) (ps.getD k zeroH) (climbK x i ps k) := by rw [climbK, if_pos h]
theorem climb_even {x : H32} {i : Nat} {ps : List H32} {k : Nat} (h : ¬ i / 2 ^ k % 2 = 1) : climbK x i ps (k + 1) = joinH (k + 1) (climbK x i ps k) (ps.getD k zeroH) := by rw [climbK, if_neg h]
def fitsP (i n : Nat) : Prop := n ≤ 32 ∧ i / 2 ^ n = 0
instance (i n : Nat) : Decidable (fitsP i n) := inferInstanceAs (Decidable (_ ∧ _))
theorem half_step (i k : Nat) : i / 2 ^ k / 2 = i / 2 ^ (k + 1) := by rw [← half_pow, Nat.pow_one]
theorem cut_path (x : H32) (v : Value) : (vl (.agg (hvl x ++ [v]).toArray))[32]? = some v := by
  rw [vl_agg, List.getElem?_append_right (by rw [hvl_length]; exact Nat.le_refl _), hvl_length]; rfl
theorem cut_leaf (x : H32) (u : Value) : ∀ j v, (hvl x)[j]? = some v → (vl (.agg (hvl x ++ [u]).toArray))[0 + j]? = some v := fun j v h => by
  rw [vl_agg, Nat.zero_add, List.getElem?_append_left (List.getElem?_eq_some_iff.1 h).1]; exact h
theorem cut_size (x : H32) (u : Value) : (hvl x ++ [u]).length = 33 := by simp [hvl_length]
theorem hcs_nil_of {xs : List H32} (h : hcs xs = []) : xs = [] := by
  have := congrArg List.length h
  rw [hcs_length] at this
  exact List.eq_nil_of_length_eq_zero (by simp at this; omega)
variable {C : Ctx} {Q : EQ} {env : Env} {ops : Array Oper}
end Go.E
