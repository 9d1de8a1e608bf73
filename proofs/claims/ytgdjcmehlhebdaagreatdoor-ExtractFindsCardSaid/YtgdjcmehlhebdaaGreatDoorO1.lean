/-
  The program logic: any bytes as a string; strings told equal or not. The program logic: a slice that is made with its zeros.
-/
import Derived.Test.YtgdjcmehlhebdaaGreatDoorQS
import Derived.Test.YtgdjcmehlhebdaaGreatDoorE1
import Derived.Laws.MakeOwn
namespace Go.E
set_option linter.unusedVariables false
section
variable {C : Ctx} {env : Env} {L : List Assn} {dst : Option Tmp} {ty ty2 : TypeId} {pos : String} {after : Array Edge} {guard : Option (Nat × Bool)} {x y : Operand} {T e src dstT : TypeId}
theorem Qt.bytesStrA {A : Option Addr} {n c : Nat} {bs : List UInt8} (hs : C.P.underlying src = some (.slice e)) (he : C.P.underlying e = some (.int .u8)) (hd : C.P.underlying dstT = some .string) (hx : env.ev x = .slice A n c) (hn : n = bs.length) (h : Has C L (SlA A (bytesL bs))) :
    Qt C L ⟨dst, .convert src dstT x, ty, pos, after, guard⟩ env (.string ⟨bs.toArray⟩) := fun w hw => by
  rcases Nat.eq_zero_or_pos bs.length with h0 | h0
  · obtain rfl : bs = [] := List.length_eq_zero_iff.1 h0
    subst hn
    cases A with
    | none =>
      have k := run_convert_bytes_string (P := C.P) w src dstT e none 0 c hs he hd
      have k2 : (Conv.bytesToString (.slice none 0 c)).run C.P w = .ok (.string ⟨#[]⟩) w := rfl
      have hx' : env.ev x = .slice none 0 c := hx
      simp [execOp, hx', k.trans k2]
    | some a =>
      have k : (Go.convert src dstT (.slice (some a) 0 c)).run C.P w = .ok (.string ⟨#[]⟩) w := run_convert_bytes_back (P := C.P) w src dstT e a c [] hs he hd fun j hj => by cases hj
      have hx' : env.ev x = .slice (some a) 0 c := hx
      simp [execOp, hx', k]
  · exact Qt.bytesStr hs he hd hx hn h0 h w hw
theorem Qt.eqStrD {s t : List UInt8} (hx : env.ev x = .string ⟨s.toArray⟩) (hy : env.ev y = .string ⟨t.toArray⟩) : Qt C L ⟨dst, .binOp .eql T x y ty2, ty, pos, after, guard⟩ env (.bool (decide (s = t))) := fun w _ => by
  simp [execOp, hx, hy, binOp, eqGuard, Op.stringOp]
  rw [Bool.eq_iff_iff]; simp
end
end Go.E
namespace Go.E
set_option linter.unusedVariables false
section
variable {C : Ctx} {env : Env} {L : List Assn} {dst : Option Tmp} {ty : TypeId} {pos : String} {after : Array Edge} {guard : Option (Nat × Bool)} {x y : Operand} {T e : TypeId} {K' : Value → List Assn → Prop}
theorem OpV.makeS {sz bytes n : Nat} {z : Value} {cs : List Value} {kl kc : IntKind} (ht : C.P.underlying T = some (.slice e)) (he : elemT C.P e sz bytes) (hz : zero1 C.P e = some z) (hx : env.ev x = .int kl (n : Int)) (hy : env.ev y = .int kc (n : Int))
    (hn : n * sz ≤ 16777216) (hb : (bytes : Int) * (n : Int) ≤ 281474976710656) (hm : n ≤ 65536) (hc : madeCells z.cells (n * sz) = cs.toArray) (h : ∀ b, K' (.slice (some ⟨b, 0, none⟩) n n) (Blk b e cs :: L)) : OpV C ⟨dst, .makeSlice T x y, ty, pos, after, guard⟩ env L K' := fun w hw => by
  obtain ⟨i, zv, hi, hzv, hsz, hby, hcs, hpos⟩ := he
  obtain rfl : zv = z := by
    have : zero1 C.P e = some zv := by simp [zero1, hi, hzv]
    rw [this] at hz; injection hz
  have hrun : (execOp env.ev ⟨dst, .makeSlice T x y, ty, pos, after, guard⟩).run C.P w = .ok (.value (.slice (some ⟨w.heap.size, 0, none⟩) n n)) (w.alloc (.cells cs.toArray e)) := by
    have k := run_makeSlice (P := C.P) w T e i zv ht hi hzv kl kc (n : Int) (n : Int) (by omega) (by omega) (by rw [hsz]; simpa using hn) (by rw [hby]; exact hb) (by omega)
    simp only [Int.toNat_natCast] at k
    rw [hsz, hc] at k
    simp [execOp, hx, hy, k]
  rw [hrun]
  refine ⟨_, hw.alloc _, ?_⟩
  exact h w.heap.size
end
end Go.E
