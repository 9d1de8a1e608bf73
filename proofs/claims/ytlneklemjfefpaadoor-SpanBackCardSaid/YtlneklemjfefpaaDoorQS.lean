/-
  The program logic, fifteenth part: bytes as a string, strings compared, structs of two numbers compared, two bundles told as one.
-/
import Derived.Test.YtlneklemjfefpaaDoorP1
import Derived.Test.YtlneklemjfefpaaDoorTK
import Derived.Laws.IdiomStrings
namespace Go.E
set_option linter.unusedVariables false
section
variable {C : Ctx} {env : Env} {L : List Assn} {dst : Option Tmp} {ty ty2 : TypeId} {pos : String} {after : Array Edge} {guard : Option (Nat × Bool)} {x y : Operand} {T e src dstT : TypeId}
end
variable {C : Ctx} {Q : EQ} {env : Env} {ops : Array Oper}
theorem getD_eq {α : Type} {s : List α} {k : Nat} (d : α) (h : k < s.length) : s.getD k d = s[k] := by simp [List.getD, h]
theorem look_first {κ : Type} [DecidableEq κ] {a : κ} (d : κ) : ∀ {s : List κ} {bs : List H32} {k : Nat}, k < s.length → s.length = bs.length → (∀ j, j < k → s.getD j d ≠ a) → s.getD k d = a → look a (s.zip bs) = some (bs.getD k zeroH)
  | [], _, _, hk, _, _, _ => absurd hk (Nat.not_lt_zero _)
  | _ :: _, [], _, _, hl, _, _ => by cases hl
  | x :: s, b :: bs, 0, _, _, _, h2 => by
    rw [List.zip_cons_cons, look_cons, if_pos (by simpa using h2.symm)]; simp
  | x :: s, b :: bs, k + 1, hk, hl, h1, h2 => by
    rw [List.zip_cons_cons, look_cons, if_neg (fun e => h1 0 (Nat.succ_pos _) (by simpa using e.symm))]
    have := look_first d (s := s) (bs := bs) (k := k) (a := a) (by simpa using hk) (by simpa using hl) (fun j hj => by have := h1 (j + 1) (by omega); simpa using this) (by simpa using h2)
    simpa using this
/-- A node's part, whatever its lists. -/
def RefOk (zs : List ((Nat × Nat) × H32)) (zl : List (Nat × H32)) (l p : Nat) : Prop := ∃ xs ls bs, Part zs zl l p xs ls bs ∧ xs.length ≤ 256
variable {zs : List ((Nat × Nat) × H32)} {zl : List (Nat × H32)} {l p : Nat}
theorem RefOk.kids (h : RefOk zs zl (l + 1) p) (e : look (l + 1, p) zs = none) : RefOk zs zl l (2 * p) ∧ RefOk zs zl l (2 * p + 1) := by
  obtain ⟨xs, ls, bs, k, kn⟩ := h
  have hx : xs ≠ [] := fun e0 => by subst e0; rw [k.found] at e; cases e
  exact ⟨⟨_, _, _, k.left hx, Nat.le_trans (cutN_len ..) kn⟩, ⟨_, _, _, k.right hx, Nat.le_trans (cutN_len ..) kn⟩⟩
theorem RefOk.leaf (h : RefOk zs zl 0 p) (e : look (0, p) zs = none) (e2 : look p zl = none) : False := by
  obtain ⟨xs, ls, bs, k, _⟩ := h
  by_cases hx : xs = []
  · subst hx; rw [k.found] at e; cases e
  · rw [(k.leaf hx).2] at e2; cases e2
theorem RefOk.len (h : RefOk zs zl l p) : (refT zs zl l p).length ≤ 256 * l := by
  obtain ⟨xs, ls, bs, k, kn⟩ := h
  rw [Part.txt l p xs ls bs k]; exact Nat.le_trans (climbT_len ..) (Nat.mul_le_mul_right _ kn)
end Go.E
