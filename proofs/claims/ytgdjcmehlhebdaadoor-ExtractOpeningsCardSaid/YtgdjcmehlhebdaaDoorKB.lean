/-
  Hashes as the keys of a map; two proofs of one root.
-/
import Derived.Test.YtgdjcmehlhebdaaDoorQS
namespace Go.E
set_option linter.unusedVariables false
/-! two proofs of one root -/
def Collides (ts : List (List UInt8)) : Prop := ∃ t ∈ ts, ∃ u ∈ ts, t ≠ u ∧ shaH t = shaH u
theorem joinT_inj {h : Nat} {l r l' r' : H32} (e : joinT h l r = joinT h l' r') : l = l' ∧ r = r' := by
  unfold joinT at e
  have e1 : l.1 ++ r.1 = l'.1 ++ r'.1 := by simpa using e
  have := List.append_inj e1 (by rw [l.2, l'.2])
  exact ⟨Subtype.ext this.1, Subtype.ext this.2⟩
theorem eq_of_len1 {a b : List H32} (ha : a.length = 1) (hb : b.length = 1) (e : a.headD zeroH = b.headD zeroH) : a = b := by
  match a, b, ha, hb with
  | [x], [y], _, _ => simp at e; rw [e]
theorem climb_bind : ∀ (l : Nat) (xs : List Nat) (p : Nat) (ls bs ls' bs' : List H32), xs.Pairwise (· < ·) → (∀ x ∈ xs, x / 2 ^ l = p) → ls.length = xs.length → ls'.length = xs.length → bs.length = (spots l xs p).length → bs'.length = (spots l xs p).length →
    climbV l xs p ls bs = climbV l xs p ls' bs' → (ls = ls' ∧ bs = bs') ∨ ∃ t ∈ climbT l xs p ls bs, ∃ u ∈ climbT l xs p ls' bs', t ≠ u ∧ shaH t = shaH u := by
  intro l
  induction l with
  | zero =>
    intro xs p ls bs ls' bs' hs hx h1 h2 h3 h4 he
    left
    by_cases hn : xs = []
    · subst hn
      rw [climbV_nil, climbV_nil] at he
      rw [spots_nil] at h3 h4
      exact ⟨by rw [List.length_eq_zero_iff.1 h1, List.length_eq_zero_iff.1 h2], eq_of_len1 h3 h4 he⟩
    · have hp := List.length_pos_iff.2 hn
      have ho := rise_one hs hx
      rw [climbV_zero hn, climbV_zero hn] at he
      rw [spots_zero hn] at h3 h4
      exact ⟨eq_of_len1 (by omega) (by omega) he, by rw [List.length_eq_zero_iff.1 h3, List.length_eq_zero_iff.1 h4]⟩
  | succ l ih =>
    intro xs p ls bs ls' bs' hs hx h1 h2 h3 h4 he
    by_cases hn : xs = []
    · subst hn
      rw [climbV_nil, climbV_nil] at he
      rw [spots_nil] at h3 h4
      exact .inl ⟨by rw [List.length_eq_zero_iff.1 h1, List.length_eq_zero_iff.1 h2], eq_of_len1 h3 h4 he⟩
    · have hpn := congrArg List.length (rise_parts l p xs hs hx)
      rw [List.length_append] at hpn
      rw [spots_succ hn, List.length_append] at h3 h4
      rw [climbV_succ hn, climbV_succ hn] at he
      rw [climbT_succ hn, climbT_succ hn]
      by_cases hj : joinT (l + 1) (climbV l (cutN xs l (2 * p)) (2 * p) (ls.take (cutN xs l (2 * p)).length) (bs.take (spots l (cutN xs l (2 * p)) (2 * p)).length)) (climbV l (cutN xs l (2 * p + 1)) (2 * p + 1) (ls.drop (cutN xs l (2 * p)).length) (bs.drop (spots l (cutN xs l (2 * p)) (2 * p)).length)) =
          joinT (l + 1) (climbV l (cutN xs l (2 * p)) (2 * p) (ls'.take (cutN xs l (2 * p)).length) (bs'.take (spots l (cutN xs l (2 * p)) (2 * p)).length)) (climbV l (cutN xs l (2 * p + 1)) (2 * p + 1) (ls'.drop (cutN xs l (2 * p)).length) (bs'.drop (spots l (cutN xs l (2 * p)) (2 * p)).length))
      · obtain ⟨e1, e2⟩ := joinT_inj hj
        have i1 := ih (cutN xs l (2 * p)) (2 * p) _ _ _ _ (cutN_rise hs) cutN_mem (by rw [List.length_take]; omega) (by rw [List.length_take]; omega) (by rw [List.length_take]; omega) (by rw [List.length_take]; omega) e1
        have i2 := ih (cutN xs l (2 * p + 1)) (2 * p + 1) _ _ _ _ (cutN_rise hs) cutN_mem (by rw [List.length_drop]; omega) (by rw [List.length_drop]; omega) (by rw [List.length_drop]; omega) (by rw [List.length_drop]; omega) e2
        rcases i1 with ⟨a1, a2⟩ | ⟨t, ht, u, hu, h5⟩
        · rcases i2 with ⟨b1, b2⟩ | ⟨t, ht, u, hu, h5⟩
          · left
            constructor
            · rw [← List.take_append_drop (cutN xs l (2 * p)).length ls, a1, b1, List.take_append_drop]
            · rw [← List.take_append_drop (spots l (cutN xs l (2 * p)) (2 * p)).length bs, a2, b2, List.take_append_drop]
          · exact .inr ⟨t, List.mem_append.2 (.inl (List.mem_append.2 (.inr ht))), u, List.mem_append.2 (.inl (List.mem_append.2 (.inr hu))), h5⟩
        · exact .inr ⟨t, List.mem_append.2 (.inl (List.mem_append.2 (.inl ht))), u, List.mem_append.2 (.inl (List.mem_append.2 (.inl hu))), h5⟩
      · exact .inr ⟨_, List.mem_append.2 (.inr (List.mem_singleton.2 rfl)), _, List.mem_append.2 (.inr (List.mem_singleton.2 rfl)), hj, he⟩
/-- Each text that was gone through is known by its hash. -/
def KnownTo (ts : List (List UInt8)) (ms : List (H32 × List UInt8)) (k : Nat) : Prop := ∀ j, j < k → look (shaH (ts.getD j [])) ms = some (ts.getD j [])
theorem KnownTo.zero (ts : List (List UInt8)) : KnownTo ts [] 0 := fun j h => absurd h (Nat.not_lt_zero _)
theorem KnownTo.step {ts : List (List UInt8)} {ms : List (H32 × List UInt8)} {k : Nat} (h : KnownTo ts ms k) (hk : ∀ s, look (shaH (ts.getD k [])) ms = some s → s = ts.getD k []) : KnownTo ts (updR (shaH (ts.getD k [])) (ts.getD k []) ms) (k + 1) := fun j hj => by
  rw [look_upd]
  rcases Nat.lt_or_ge j k with h1 | h1
  · have h2 := h j h1
    by_cases e : shaH (ts.getD j []) = shaH (ts.getD k [])
    · rw [if_pos e]; rw [e] at h2; rw [hk _ h2]
    · rw [if_neg e]; exact h2
  · obtain rfl : j = k := by omega
    rw [if_pos rfl]
theorem KnownTo.none {ts : List (List UInt8)} {ms : List (H32 × List UInt8)} (h : KnownTo ts ms ts.length) : ¬ Collides ts := fun ⟨t, ht, u, hu, hne, hs⟩ => by
  obtain ⟨i, hi, rfl⟩ := List.mem_iff_getElem.1 ht
  obtain ⟨j, hj, rfl⟩ := List.mem_iff_getElem.1 hu
  have h1 := h i hi
  have h2 := h j hj
  rw [getD_eq [] hi] at h1
  rw [getD_eq [] hj] at h2
  rw [hs, h2] at h1
  exact hne (Option.some.inj h1).symm
theorem KnownTo.look_none {ts : List (List UInt8)} {ms : List (H32 × List UInt8)} {k : Nat} (h : look (shaH (ts.getD k [])) ms = Option.none) : ∀ s, look (shaH (ts.getD k [])) ms = some s → s = ts.getD k [] := fun s hs => by rw [h] at hs; cases hs
section
variable {C : Ctx} {env : Env} {L : List Assn} {dst : Option Tmp} {ty ty2 : TypeId} {pos : String} {after : Array Edge} {guard : Option (Nat × Bool)} {x y : Operand} {T : TypeId} {s t : List UInt8}
theorem Qt.neStr (hx : env.ev x = .string ⟨s.toArray⟩) (hy : env.ev y = .string ⟨t.toArray⟩) : Qt C L ⟨dst, .binOp .neq T x y ty2, ty, pos, after, guard⟩ env (.bool (decide (s ≠ t))) := fun w _ => by
  simp [execOp, hx, hy, binOp, eqGuard, Op.stringOp]
  rw [Bool.eq_iff_iff]; simp
end
theorem rootR_ok {z : Int} {xs : List Nat} {ls bs : List H32} (h : (rootR z xs ls bs).2 = 0) : ∃ height : Nat, z = (height : Int) ∧ height ≤ 32 ∧ idxOk height xs ∧ ls.length = xs.length ∧ bs.length = (spots height xs 0).length ∧ (rootR z xs ls bs).1 = climbV height xs 0 ls bs := by
  by_cases hz : z < 0 ∨ 32 < z
  · rw [rootR, if_pos hz] at h; exact absurd h (by decide)
  · obtain ⟨height, rfl⟩ : ∃ n : Nat, z = (n : Int) := ⟨z.toNat, by omega⟩
    have hh : height ≤ 32 := by omega
    rw [rootR_nat hh] at h ⊢
    by_cases hi : idxOk height xs
    · by_cases h2 : ls.length = xs.length
      · by_cases h3 : bs.length = (spots height xs 0).length
        · exact ⟨height, rfl, hh, hi, h2, h3, by rw [rootN_0 hi h2 h3]⟩
        · rw [rootN_5 hi h2 h3] at h; exact absurd h (by decide)
      · rw [rootN_2 hi h2] at h; exact absurd h (by decide)
    · rw [rootN_1 hi] at h; exact absurd h (by decide)
end Go.E
