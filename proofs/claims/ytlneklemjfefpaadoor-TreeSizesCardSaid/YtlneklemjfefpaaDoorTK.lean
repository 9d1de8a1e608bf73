/-
  The law of keys that are a level and a place.
-/
import Derived.Test.YtlneklemjfefpaaDoorTR
import Derived.Laws.StructEq
import Derived.ChangeKeysEq
namespace Go.E
set_option linter.unusedVariables false
def encAt (a : Nat × Nat) : Value := .agg #[.int .i64 (a.1 : Int), .int .u64 (a.2 : Int)]
theorem run_part_int {P : Program} {w : World} {T : TypeId} {k : IntKind} {xs : Array Value} {off : Nat} {v : Value} (ht : P.underlying T = some (.int k)) (hx : xs[off]? = some v) : (part T xs off).run P w = .ok v w :=
  run_part_plain w (by unfold Program.plainKey; rw [ht]) hx
theorem keyAt {P : Program} {T : TypeId} {f g : Field} (ht : P.underlying T = some (.struct #[f, g])) (hf : f.name ≠ "_") (hg : g.name ≠ "_") (hfo : f.offset = 0) (hgo : g.offset = 1)
    (hft : P.underlying f.type = some (.int .i64)) (hgt : P.underlying g.type = some (.int .u64)) (hp : P.stoodInHeld T = false) : KeyLaw P T encAt where
  desc := ⟨_, ht, .inr fun _ _ => rfl⟩
  eq a b w := by
    have hfs : P.fieldsOf T = #[f, g] := by unfold Program.fieldsOf; rw [ht]
    have h : (Op.equalIn (9999 + 1) T (encAt a) (encAt b)).run P w = .ok (decide (a = b)) w := by
      unfold encAt
      rw [run_equalIn_struct w 9999 T _ _ (by rw [ht, hfs]) hp, hfs]
      simp only [Op.eqFields, hf, hg, ne_eq, not_false_eq_true, if_true, Sem.run_bind]
      rw [run_part_int (v := .int .i64 (a.1 : Int)) hft (by rw [hfo]; rfl), Result.andThen_ok, run_part_int (v := .int .i64 (b.1 : Int)) hft (by rw [hfo]; rfl), Result.andThen_ok, run_equalIn_int w 9998 _ _ _ _ _ hft, Result.andThen_ok]
      by_cases h1 : a.1 = b.1
      · rw [if_neg (by simp [h1]), Sem.run_bind, run_part_int (v := .int .u64 (a.2 : Int)) hgt (by rw [hgo]; rfl), Result.andThen_ok, Sem.run_bind, run_part_int (v := .int .u64 (b.2 : Int)) hgt (by rw [hgo]; rfl), Result.andThen_ok, Sem.run_bind, run_equalIn_int w 9998 _ _ _ _ _ hgt, Result.andThen_ok]
        by_cases h2 : a.2 = b.2
        · rw [if_neg (by simp [h2])]
          have : a = b := Prod.ext h1 h2
          simp [this]
        · rw [if_pos (by simp only [Bool.not_eq_true', beq_eq_false_iff_ne]; omega)]
          have : a ≠ b := fun e => h2 (by rw [e])
          simp [this]
      · rw [if_pos (by simp only [Bool.not_eq_true', beq_eq_false_iff_ne]; omega)]
        have : a ≠ b := fun e => h1 (by rw [e])
        simp [this]
    exact h
  check e a w := by
    have h : (Instr.checkKey e (9999 + 1) T (encAt a)).run P w = .ok () w := by
      unfold encAt Instr.checkKey
      simp only [Sem.run_bind, run_underlying ht, Result.andThen_ok]
      have h1 : ∀ w : World, (Instr.checkKey e 9999 f.type (.int .i64 (a.1 : Int))).run P w = .ok () w := fun w => checkKey_int hft 9998
      have h2 : ∀ w : World, (Instr.checkKey e 9999 g.type (.int .u64 (a.2 : Int))).run P w = .ok () w := fun w => checkKey_int hgt 9998
      have p1 : ∀ w : World, (part f.type #[Value.int .i64 (a.1 : Int), .int .u64 (a.2 : Int)] f.offset).run P w = .ok (.int .i64 (a.1 : Int)) w := fun w => run_part_int hft (by rw [hfo]; rfl)
      have p2 : ∀ w : World, (part g.type #[Value.int .i64 (a.1 : Int), .int .u64 (a.2 : Int)] g.offset).run P w = .ok (.int .u64 (a.2 : Int)) w := fun w => run_part_int hgt (by rw [hgo]; rfl)
      rw [← Array.forIn_toList]
      simp only [List.forIn_cons, List.forIn_nil, hf, hg, ne_eq, not_false_eq_true, if_true, Sem.run_bind, p1, p2, h1, h2, Result.andThen_ok, Sem.run_pure]
    exact h
  bits a := by
    have h1 : ∀ n, Instr.sameBits n (.int .i64 (a.1 : Int)) (.int .i64 (a.1 : Int)) = (IntKind.i64 == IntKind.i64 && (a.1 : Int) == (a.1 : Int)) := fun n => by unfold Instr.sameBits; rfl
    have h2 : ∀ n, Instr.sameBits n (.int .u64 (a.2 : Int)) (.int .u64 (a.2 : Int)) = (IntKind.u64 == IntKind.u64 && (a.2 : Int) == (a.2 : Int)) := fun n => by unfold Instr.sameBits; rfl
    unfold encAt Instr.sameBits
    simp [h1, h2]
/-- The cells of a tree. -/
def treeCs (E : Nat → H32) (height mb : Nat) : List Value := .int .i64 (height : Int) :: .map (some mb) :: hcs (emptL E)
theorem okAt_iff {height l p : Nat} (h : l ≤ height) : p / 2 ^ (height - l) = 0 ↔ okAt height (l, p) := by
  rw [Nat.div_eq_zero_iff_lt (Nat.two_pow_pos _)]
  exact ⟨fun k => ⟨h, k⟩, fun k => k.2⟩
theorem okAt_lt {height l p : Nat} (hh : height ≤ 32) (h : okAt height (l, p)) : l ≤ 32 ∧ p < 4294967296 := by
  refine ⟨Nat.le_trans h.1 hh, Nat.lt_of_lt_of_le h.2 ?_⟩
  exact Nat.pow_le_pow_right (n := 2) (by decide) (show height - l ≤ 32 by omega)
theorem valOr_look (E : Nat → H32) (ms : Tm) (a : Nat × Nat) {h : H32} (hl : look a ms = some h) : getT E ms a = h := by simp [getT, hl]
theorem valOr_none (E : Nat → H32) (ms : Tm) (a : Nat × Nat) (hl : look a ms = none) : getT E ms a = E a.1 := by simp [getT, hl]
theorem putT_eq {E : Nat → H32} {ms : Tm} {a : Nat × Nat} {h : H32} (e : h = E a.1) : putT E ms a h = delR a ms := if_pos e
theorem putT_ne {E : Nat → H32} {ms : Tm} {a : Nat × Nat} {h : H32} (e : h ≠ E a.1) : putT E ms a h = updR a h ms := if_neg e
variable {C : Ctx} {env : Env} {L : List Assn}
/-- A literal of two fields. -/
theorem Qt.build2 {T ty : TypeId} {dst : Option Tmp} {pos : String} {after : Array Edge} {guard : Option (Nat × Bool)} {i j : Nat} {x y : Operand} {a b v : Value} (hx : env.ev x = a) (hy : env.ev y = b)
    (h : ∀ w, (Instr.build T #[(i, a), (j, b)]).run C.P w = .ok v w) : Qt C L ⟨dst, .build T #[(i, x), (j, y)], ty, pos, after, guard⟩ env v := Qt.build (ps := #[(i, a), (j, b)]) (by simp [hx, hy]) h
/-- The empty hash of a level, in a tree's own cells. -/
theorem Ld.treeE {b o : Nat} {T T' : TypeId} {E : Nat → H32} {height mb : Nat} (h : Has C L (Blk b T' (treeCs E height mb))) (i : Nat) (hT : rowT C.P T = true) (hs : (C.P.info? T).map (·.size) = some 32) (hi : i < 33) (ho : o = 2 + i * 32) : Ld C L (some ⟨b, o, none⟩) T (hv (E i)) := by
  have hg := hcs_at (l := emptL E) (i := i) (k := i * 32) (by rw [emptL_length]; exact hi) rfl
  rw [emptL_get E hi] at hg
  refine Ld.row h hT (by rw [hvl_length]; exact hs) (fun j u hj => ?_)
  subst ho
  have := hg j u hj
  rw [treeCs, show 2 + i * 32 + j = i * 32 + j + 1 + 1 by omega, List.getElem?_cons_succ, List.getElem?_cons_succ]
  exact this
theorem half_pow (i j : Nat) : i / 2 ^ j / 2 ^ 1 = i / 2 ^ (j + 1) := by rw [Nat.div_div_eq_div_mul, ← Nat.pow_add]
theorem pow32 {height i : Nat} (hh : height ≤ 32) (hi : i < 2 ^ height) : i < 4294967296 :=
  Nat.lt_of_lt_of_le hi (show 2 ^ height ≤ 2 ^ 32 from Nat.pow_le_pow_right (by decide) hh)
theorem ok0 {height i : Nat} (h : i < 2 ^ height) : okAt height (0, i) := ⟨Nat.zero_le _, h⟩
theorem not_ok0 {height i : Nat} (h : ¬ i < 2 ^ height) : ¬ okAt height (0, i) := fun k => h k.2
end Go.E
