/-
  Plain words: scripts of acts upon a tree, and what is left of them.
-/
import Derived.Test.YtlneklemjfefpaaDoorTK
namespace Go.E
set_option linter.unusedVariables false
structure Act where
  i : Nat
  h : H32
  d : Bool
  lt : i < 18446744073709551616
def act0 : Act := ⟨0, zeroH, false, by decide⟩
def actL (a : Act) : List Value := .int .u64 (a.i : Int) :: (hvl a.h ++ [.bool a.d])
theorem actL_length (a : Act) : (actL a).length = 34 := by simp [actL, hvl_length]
theorem actL_one (a : Act) : (vl (.agg (actL a).toArray)).all (·.oneCell') = true := by
  rw [vl_agg, actL, List.all_cons, List.all_append, hvl_one]; rfl
theorem actL_vl (a : Act) : (vl (.agg (actL a).toArray)).length = 34 := by rw [vl_agg, actL_length]
theorem flat_at {α : Type} {encL : α → List Value} {sz : Nat} (hlen : ∀ a, (encL a).length = sz) : ∀ (xs : List α) (i : Nat) (x : α), xs[i]? = some x → ∀ j v, (encL x)[j]? = some v → (xs.flatMap encL)[i * sz + j]? = some v
  | [], i, x, h, j, v, hj => by simp at h
  | y :: xs, 0, x, h, j, v, hj => by
    obtain rfl : y = x := by simpa using h
    rw [List.flatMap_cons, List.getElem?_append_left (by rw [Nat.zero_mul, Nat.zero_add]; exact (List.getElem?_eq_some_iff.1 hj).1), Nat.zero_mul, Nat.zero_add]
    exact hj
  | y :: xs, i + 1, x, h, j, v, hj => by
    have e : (i + 1) * sz + j = sz + (i * sz + j) := by rw [Nat.add_mul, Nat.one_mul]; omega
    rw [List.flatMap_cons, e, List.getElem?_append_right (by rw [hlen]; omega), hlen, Nat.add_sub_cancel_left]
    exact flat_at hlen xs i x (by simpa using h) j v hj
theorem flat_len {α : Type} {encL : α → List Value} {sz : Nat} (hlen : ∀ a, (encL a).length = sz) : ∀ xs : List α, (xs.flatMap encL).length = xs.length * sz
  | [] => by simp
  | x :: xs => by rw [List.flatMap_cons, List.length_append, hlen, flat_len hlen xs, List.length_cons, Nat.add_mul, Nat.one_mul, Nat.add_comm]
theorem getD_some {α : Type} {xs : List α} {k : Nat} (d : α) (h : k < xs.length) : xs[k]? = some (xs.getD k d) := by simp [List.getD, h]
theorem acts_len (xs : List Act) : (xs.flatMap actL).length = xs.length * 34 := flat_len actL_length xs
theorem acts_at {xs : List Act} {k : Nat} (h : k < xs.length) : ∀ j v, (actL (xs.getD k act0))[j]? = some v → (xs.flatMap actL)[k * 34 + j]? = some v :=
  flat_at actL_length xs k _ (getD_some act0 h)
theorem actL_hash (a : Act) : ∀ j v, (hvl a.h)[j]? = some v → (vl (.agg (actL a).toArray))[1 + j]? = some v := fun j v h => by
  have hj : j < 32 := by rw [← hvl_length a.h]; exact (List.getElem?_eq_some_iff.1 h).1
  rw [vl_agg, actL, Nat.add_comm, List.getElem?_cons_succ, List.getElem?_append_left (by rw [hvl_length]; exact hj)]
  exact h
/-- The last hash laid at each index that a tree has. -/
structure LastOk (E : Nat → H32) (height : Nat) (xs : List Act) (k : Nat) (f : Nat → H32) (last : Ms) : Prop where
  val : ∀ j, f j = (look j last).getD (E 0)
  key : ∀ j h, look j last = some h → j < 2 ^ height ∧ j ∈ (xs.take k).map (·.i)
theorem LastOk.zero {E : Nat → H32} {height : Nat} {xs : List Act} : LastOk E height xs 0 (fun _ => E 0) [] := ⟨fun j => rfl, fun j h hl => by cases hl⟩
theorem take_mem {xs : List Act} {k : Nat} (h : k < xs.length) : (xs.take (k + 1)).map (·.i) = (xs.take k).map (·.i) ++ [(xs.getD k act0).i] := by
  rw [List.take_succ_eq_append_getElem h, List.map_append]; simp [List.getD, h]
theorem LastOk.step {E : Nat → H32} {height : Nat} {xs : List Act} {k : Nat} {f : Nat → H32} {last : Ms} (h : LastOk E height xs k f last) (hk : k < xs.length) (hs : (xs.getD k act0).i < 2 ^ height) :
    LastOk E height xs (k + 1) (updF f (xs.getD k act0).i (xs.getD k act0).h) (updR (xs.getD k act0).i (xs.getD k act0).h last) where
  val j := by
    rw [look_upd, updF]
    split
    · rfl
    · exact h.val j
  key j x hl := by
    rw [take_mem hk, List.mem_append, List.mem_singleton]
    rw [look_upd] at hl
    split at hl
    · rename_i e; subst e; exact ⟨hs, .inr rfl⟩
    · obtain ⟨h1, h2⟩ := h.key j x hl; exact ⟨h1, .inl h2⟩
theorem LastOk.skip {E : Nat → H32} {height : Nat} {xs : List Act} {k : Nat} {f : Nat → H32} {last : Ms} (h : LastOk E height xs k f last) (hk : k < xs.length) : LastOk E height xs (k + 1) f last where
  val := h.val
  key j x hl := by
    rw [take_mem hk, List.mem_append]
    obtain ⟨h1, h2⟩ := h.key j x hl; exact ⟨h1, .inl h2⟩
/-- The same leaves, laid from the end. -/
def BackOk (E : Nat → H32) (xs : List Act) (c : Nat) (last : Ms) (g : Nat → H32) : Prop := ∀ j, g j = if j ∈ (xs.drop c).map (·.i) then (look j last).getD (E 0) else E 0
theorem BackOk.zero {E : Nat → H32} {xs : List Act} {last : Ms} : BackOk E xs xs.length last (fun _ => E 0) := fun j => by simp
theorem drop_mem {xs : List Act} {c : Nat} (h0 : 1 ≤ c) (h : c ≤ xs.length) : (xs.drop (c - 1)).map (·.i) = (xs.getD (c - 1) act0).i :: (xs.drop c).map (·.i) := by
  have h1 : c - 1 < xs.length := by omega
  rw [List.drop_eq_getElem_cons h1, List.map_cons, show c - 1 + 1 = c by omega]
  simp [List.getD, h1]
theorem BackOk.step {E : Nat → H32} {xs : List Act} {c : Nat} {last : Ms} {g : Nat → H32} {h : H32} (hb : BackOk E xs c last g) (h0 : 1 ≤ c) (hc : c ≤ xs.length) (hl : look (xs.getD (c - 1) act0).i last = some h) :
    BackOk E xs (c - 1) last (updF g (xs.getD (c - 1) act0).i h) := fun j => by
  rw [drop_mem h0 hc, updF]
  generalize (xs.getD (c - 1) act0).i = q at hl ⊢
  by_cases e : j = q
  · subst e; simp [hl]
  · rw [if_neg e, hb j]; simp only [List.mem_cons, e, false_or]
theorem BackOk.skip {E : Nat → H32} {xs : List Act} {c : Nat} {last : Ms} {g : Nat → H32} (hb : BackOk E xs c last g) (h0 : 1 ≤ c) (hc : c ≤ xs.length) (hl : look (xs.getD (c - 1) act0).i last = none) :
    BackOk E xs (c - 1) last g := fun j => by
  rw [drop_mem h0 hc]
  generalize (xs.getD (c - 1) act0).i = q at hl ⊢
  by_cases e : j = q
  · subst e; rw [hb, hl]; simp
  · rw [hb j]; simp only [List.mem_cons, e, false_or]
theorem BackOk.done {E : Nat → H32} {height : Nat} {xs : List Act} {k : Nat} {f g : Nat → H32} {last : Ms} (hb : BackOk E xs 0 last g) (h : LastOk E height xs k f last) : g = f := funext fun j => by
  rw [hb j, h.val j]
  split
  · rfl
  · rename_i hn
    cases hl : look j last with
    | none => rfl
    | some x =>
      refine absurd ?_ hn
      obtain ⟨_, h2⟩ := h.key j x hl
      rw [List.drop_zero]
      obtain ⟨a, ha, rfl⟩ := List.mem_map.1 h2
      exact List.mem_map.2 ⟨a, List.mem_of_mem_take ha, rfl⟩
theorem okRoot (height : Nat) : okAt height (height, 0) := ⟨Nat.le_refl _, by simp⟩
variable {C : Ctx} {env : Env} {L : List Assn}
/-- A field of a slice's element. -/
theorem Qt.fieldS {T ty : TypeId} {dst : Option Tmp} {pos : String} {after : Array Edge} {guard : Option (Nat × Bool)} {x : Operand} {fs : Array Field} {f : Field} {i k sz : Nat} {A : Option Addr} {cs : List Value}
    (hT : C.P.underlying T = some (.struct fs)) (hf : fs[i]? = some f) (hs : (C.P.info? f.type).map (·.size) = some (sz + 1)) (hx : env.ev x = .pointer (A.map (·.add k))) (h : Has C L (SlA A cs)) (hc : k < cs.length) :
    Qt C L ⟨dst, .fieldAddr T x i, ty, pos, after, guard⟩ env (.pointer (A.map (·.add (k + f.offset)))) := fun w hw => by
  obtain ⟨inf, hin, hsz⟩ := Option.map_eq_some_iff.1 hs
  obtain ⟨a, rfl, _⟩ := h w hw _ _ (List.getElem?_eq_getElem hc)
  simp [execOp, hx, Instr.fieldAt, Instr.sureAddr, run_underlying hT, hf, fieldPlace, sizeOf, typeInfo, hin, hsz, add_add]
end Go.E
