/-
  Maps whose keys are numbers of 64 bits.
-/
import Derived.Test.YtlneklemjfefpaaDoorMV
namespace Go.E
theorem equalIn_int {P : Program} {w : World} {T : TypeId} {k k' : IntKind} {a b : Int} (ht : P.underlying T = some (.int k')) (d : Nat) : (Op.equalIn (d + 1) T (.int k a) (.int k b)).run P w = .ok (a == b) w := by
  simp [Op.equalIn, run_underlying ht]
theorem checkKey_int {P : Program} {w : World} {T : TypeId} {k k' : IntKind} {a : Int} {e : Bool} (ht : P.underlying T = some (.int k')) (d : Nat) : (Instr.checkKey e (d + 1) T (.int k a)).run P w = .ok () w := by
  simp [Instr.checkKey, run_underlying ht]
theorem keyU {P : Program} {T : TypeId} (ht : P.underlying T = some (.int .u64)) : KeyLaw P T encU where
  desc := ⟨_, ht, .inl fun a b => by
    simp only [Instr.sameNow, encU, if_true]
    congr 1
    rw [Bool.eq_iff_iff]; simp; omega⟩
  eq a b w := by
    have h := equalIn_int (P := P) (w := w) (k := .u64) (a := (a : Int)) (b := (b : Int)) ht 9999
    refine (show _ = _ from h).trans ?_
    congr 1
    rw [Bool.eq_iff_iff]; simp; omega
  check e a w := checkKey_int ht 9999
  bits a := by
    have : Instr.sameBits 10000 (.int .u64 (a : Int)) (.int .u64 (a : Int)) = (IntKind.u64 == IntKind.u64 && (a : Int) == (a : Int)) := by
      unfold Instr.sameBits; rfl
    simp [encU, this]
end Go.E
