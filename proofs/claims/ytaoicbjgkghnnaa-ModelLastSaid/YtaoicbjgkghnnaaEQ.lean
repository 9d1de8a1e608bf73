/-
  The program logic, fifteenth part: stores and copies told by what the block holds then; arrays as values; literals that are one's own.
-/
import Derived.Test.YtaoicbjgkghnnaaE2
import Derived.Test.YtaoicbjgkghnnaaM1
import Derived.Laws.Cells
import Derived.Laws.Append
import Derived.Laws.CopyRow
import Derived.ChangeKeysEq
namespace Go.E
set_option linter.unusedVariables false
set_option linter.unusedSectionVars false
variable {C : Ctx} {env : Env} {L : List Assn}
variable {dst : Option Tmp} {ty : TypeId} {pos : String} {after : Array Edge} {guard : Option (Nat × Bool)} {x y z : Operand} {v : Value} {T T' e : TypeId} {b o : Nat} {cs cs' : List Value} {K' : Value → List Assn → Prop}
theorem Qt.index_str {i : Nat} {ki : IntKind} {s : ByteArray} {c : UInt8} (ht : C.P.underlying T = some .string) (hx : env.ev x = .string s) (hy : env.ev y = .int ki (i : Int)) (hv : s[i]? = some c) :
    Qt C L ⟨dst, .index T x y, ty, pos, after, guard⟩ env (.int .u8 (c.toNat : Int)) := fun w _ => by
  simp [execOp, hx, hy, Instr.index, asIntOf, run_underlying ht, hv]
theorem OpV.storeE0 {R : List Assn} (hx : env.ev x = .pointer (some ⟨b, o, none⟩)) (hy : env.ev y = v) (hs : (C.P.info? T).map (·.size) = some 1) (hv : vl v = [v]) (h1 : v.oneCell' = true) (hl : o < cs.length) (hc : cs.set o v = cs')
    (h : K' undef (Blk b T' cs' :: R)) : OpV C ⟨dst, .store T x y, ty, pos, after, guard⟩ env (Blk b T' cs :: R) K' :=
  OpV.storeG (L1 := []) hx hy (by rw [hv]; exact hs) (by rw [hv]; simp [h1]) (by rw [hv]; exact hl) (by rw [hv]; exact (spl_one hl).trans hc) h
theorem OpV.storeE1 {B0 : Assn} {R : List Assn} (hx : env.ev x = .pointer (some ⟨b, o, none⟩)) (hy : env.ev y = v) (hs : (C.P.info? T).map (·.size) = some 1) (hv : vl v = [v]) (h1 : v.oneCell' = true) (hl : o < cs.length) (hc : cs.set o v = cs')
    (h : K' undef (B0 :: Blk b T' cs' :: R)) : OpV C ⟨dst, .store T x y, ty, pos, after, guard⟩ env (B0 :: Blk b T' cs :: R) K' :=
  OpV.storeG (L1 := [B0]) hx hy (by rw [hv]; exact hs) (by rw [hv]; simp [h1]) (by rw [hv]; exact hl) (by rw [hv]; exact (spl_one hl).trans hc) h
theorem Qt.as {o : Oper} {v v' : Value} (h : Qt C L o env v) (e : v = v') : Qt C L o env v' := e ▸ h
end Go.E
