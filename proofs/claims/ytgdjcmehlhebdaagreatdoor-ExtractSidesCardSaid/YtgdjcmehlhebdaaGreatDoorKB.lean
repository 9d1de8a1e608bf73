/-
  Hashes as the keys of a map; two proofs of one root.
-/
import Derived.Test.YtgdjcmehlhebdaaGreatDoorQS
namespace Go.E
set_option linter.unusedVariables false
/-! two proofs of one root -/
def Collides (ts : List (List UInt8)) : Prop := ∃ t ∈ ts, ∃ u ∈ ts, t ≠ u ∧ shaH t = shaH u
theorem joinT_inj {h : Nat} {l r l' r' : H32} (e : joinT h l r = joinT h l' r') : l = l' ∧ r = r' := by
  unfold joinT at e
  have e1 : l.1 ++ r.1 = l'.1 ++ r'.1 := by simpa using e
  have := List.append_inj e1 (by rw [l.2, l'.2])
  exact ⟨Subtype.ext this.1, Subtype.ext this.2⟩
/-- Each text that was gone through is known by its hash. -/
def KnownTo (ts : List (List UInt8)) (ms : List (H32 × List UInt8)) (k : Nat) : Prop := ∀ j, j < k → look (shaH (ts.getD j [])) ms = some (ts.getD j [])
theorem KnownTo.zero (ts : List (List UInt8)) : KnownTo ts [] 0 := fun j h => absurd h (Nat.not_lt_zero _)
theorem KnownTo.step {ts : List (List UInt8)} {ms : List (H32 × List UInt8)} {k : Nat} (h : KnownTo ts ms k) (hk : ∀ s, look (shaH (ts.getD k [])) ms = some s → s = ts.getD k []) : KnownTo ts (updR (shaH (ts.getD k [])) (ts.getD k []) ms) (k + 1) := fun j hj => by
  rw [look_upd]
  rcases Nat.lt_or_ge j k with h1 | h1
  · have h2 := h j h1
    by_cases e : shaH (ts.getD j []) = shaH (ts.getD k [])
    · rw [if_pos e]; rw [e] at h2; rw [hk _ h2]
    · rw [if_neg e]; exact h2
  · obtain rfl : j = k := by omega
    rw [if_pos rfl]
theorem KnownTo.none {ts : List (List UInt8)} {ms : List (H32 × List UInt8)} (h : KnownTo ts ms ts.length) : ¬ Collides ts := fun ⟨t, ht, u, hu, hne, hs⟩ => by
  obtain ⟨i, hi, rfl⟩ := List.mem_iff_getElem.1 ht
  obtain ⟨j, hj, rfl⟩ := List.mem_iff_getElem.1 hu
  have h1 := h i hi
  have h2 := h j hj
  rw [getD_eq [] hi] at h1
  rw [getD_eq [] hj] at h2
  rw [hs, h2] at h1
  exact hne (Option.some.inj h1).symm
theorem KnownTo.look_none {ts : List (List UInt8)} {ms : List (H32 × List UInt8)} {k : Nat} (h : look (shaH (ts.getD k [])) ms = Option.none) : ∀ s, look (shaH (ts.getD k [])) ms = some s → s = ts.getD k [] := fun s hs => by rw [h] at hs; cases hs
section
variable {C : Ctx} {env : Env} {L : List Assn} {dst : Option Tmp} {ty ty2 : TypeId} {pos : String} {after : Array Edge} {guard : Option (Nat × Bool)} {x y : Operand} {T : TypeId} {s t : List UInt8}
theorem Qt.neStr (hx : env.ev x = .string ⟨s.toArray⟩) (hy : env.ev y = .string ⟨t.toArray⟩) : Qt C L ⟨dst, .binOp .neq T x y ty2, ty, pos, after, guard⟩ env (.bool (decide (s ≠ t))) := fun w _ => by
  simp [execOp, hx, hy, binOp, eqGuard, Op.stringOp]
  rw [Bool.eq_iff_iff]; simp
end
end Go.E
