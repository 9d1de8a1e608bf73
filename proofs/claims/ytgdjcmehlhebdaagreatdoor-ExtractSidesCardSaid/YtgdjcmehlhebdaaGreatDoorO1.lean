/-
  The program logic: any bytes as a string; strings told equal or not. The program logic: two truth values compared. The program logic: a slice that is made with its zeros. Append at places further down. An element of an array's value that is a slice.
-/
import Derived.Test.YtgdjcmehlhebdaaGreatDoorQS
import Derived.Test.YtgdjcmehlhebdaaGreatDoorEQ
import Derived.Test.YtgdjcmehlhebdaaGreatDoorE1
import Derived.Test.YtgdjcmehlhebdaaGreatDoorE2
import Derived.Laws.StructEq
import Derived.Laws.MakeOwn
namespace Go.E
set_option linter.unusedVariables false
section
variable {C : Ctx} {env : Env} {L : List Assn} {dst : Option Tmp} {ty ty2 : TypeId} {pos : String} {after : Array Edge} {guard : Option (Nat × Bool)} {x y : Operand} {T e src dstT : TypeId}
theorem Qt.bytesStrA {A : Option Addr} {n c : Nat} {bs : List UInt8} (hs : C.P.underlying src = some (.slice e)) (he : C.P.underlying e = some (.int .u8)) (hd : C.P.underlying dstT = some .string) (hx : env.ev x = .slice A n c) (hn : n = bs.length) (h : Has C L (SlA A (bytesL bs))) :
    Qt C L ⟨dst, .convert src dstT x, ty, pos, after, guard⟩ env (.string ⟨bs.toArray⟩) := fun w hw => by
  rcases Nat.eq_zero_or_pos bs.length with h0 | h0
  · obtain rfl : bs = [] := List.length_eq_zero_iff.1 h0
    subst hn
    cases A with
    | none =>
      have k := run_convert_bytes_string (P := C.P) w src dstT e none 0 c hs he hd
      have k2 : (Conv.bytesToString (.slice none 0 c)).run C.P w = .ok (.string ⟨#[]⟩) w := rfl
      have hx' : env.ev x = .slice none 0 c := hx
      simp [execOp, hx', k.trans k2]
    | some a =>
      have k : (Go.convert src dstT (.slice (some a) 0 c)).run C.P w = .ok (.string ⟨#[]⟩) w := run_convert_bytes_back (P := C.P) w src dstT e a c [] hs he hd fun j hj => by cases hj
      have hx' : env.ev x = .slice (some a) 0 c := hx
      simp [execOp, hx', k]
  · exact Qt.bytesStr hs he hd hx hn h0 h w hw
theorem Qt.eqStrD {s t : List UInt8} (hx : env.ev x = .string ⟨s.toArray⟩) (hy : env.ev y = .string ⟨t.toArray⟩) : Qt C L ⟨dst, .binOp .eql T x y ty2, ty, pos, after, guard⟩ env (.bool (decide (s = t))) := fun w _ => by
  simp [execOp, hx, hy, binOp, eqGuard, Op.stringOp]
  rw [Bool.eq_iff_iff]; simp
end
end Go.E
namespace Go.E
set_option linter.unusedVariables false
variable {C : Ctx} {env : Env} {L : List Assn}
variable {dst : Option Tmp} {ty ty2 T : TypeId} {pos : String} {after : Array Edge} {guard : Option (Nat × Bool)} {x y : Operand} {a b : Bool}
theorem Qt.neb (ht : C.P.underlying T = some .bool) (hx : env.ev x = .bool a) (hy : env.ev y = .bool b) : Qt C L ⟨dst, .binOp .neq T x y ty2, ty, pos, after, guard⟩ env (.bool (a != b)) := fun w _ => by
  have h : (Op.equal T (.bool a) (.bool b)).run C.P w = .ok (a == b) w := run_equalIn_bool' w 9999 T a b ht
  simp [execOp, hx, hy, eqGuard, binOp, h]
  cases a <;> cases b <;> rfl
end Go.E
namespace Go.E
set_option linter.unusedVariables false
section
variable {C : Ctx} {env : Env} {L : List Assn} {dst : Option Tmp} {ty : TypeId} {pos : String} {after : Array Edge} {guard : Option (Nat × Bool)} {x y : Operand} {T e : TypeId} {K' : Value → List Assn → Prop}
theorem OpV.makeS {sz bytes n : Nat} {z : Value} {cs : List Value} {kl kc : IntKind} (ht : C.P.underlying T = some (.slice e)) (he : elemT C.P e sz bytes) (hz : zero1 C.P e = some z) (hx : env.ev x = .int kl (n : Int)) (hy : env.ev y = .int kc (n : Int))
    (hn : n * sz ≤ 16777216) (hb : (bytes : Int) * (n : Int) ≤ 281474976710656) (hm : n ≤ 65536) (hc : madeCells z.cells (n * sz) = cs.toArray) (h : ∀ b, K' (.slice (some ⟨b, 0, none⟩) n n) (Blk b e cs :: L)) : OpV C ⟨dst, .makeSlice T x y, ty, pos, after, guard⟩ env L K' := fun w hw => by
  obtain ⟨i, zv, hi, hzv, hsz, hby, hcs, hpos⟩ := he
  obtain rfl : zv = z := by
    have : zero1 C.P e = some zv := by simp [zero1, hi, hzv]
    rw [this] at hz; injection hz
  have hrun : (execOp env.ev ⟨dst, .makeSlice T x y, ty, pos, after, guard⟩).run C.P w = .ok (.value (.slice (some ⟨w.heap.size, 0, none⟩) n n)) (w.alloc (.cells cs.toArray e)) := by
    have k := run_makeSlice (P := C.P) w T e i zv ht hi hzv kl kc (n : Int) (n : Int) (by omega) (by omega) (by rw [hsz]; simpa using hn) (by rw [hby]; exact hb) (by omega)
    simp only [Int.toNat_natCast] at k
    rw [hsz, hc] at k
    simp [execOp, hx, hy, k]
  rw [hrun]
  refine ⟨_, hw.alloc _, ?_⟩
  exact h w.heap.size
end
end Go.E
namespace Go.E
set_option linter.unusedVariables false
set_option linter.unusedSectionVars false
variable {C : Ctx} {env : Env} {L : List Assn} {e : TypeId}
variable {dst : Option Tmp} {ty : TypeId} {pos : String} {after : Array Edge} {guard : Option (Nat × Bool)} {x y z : Operand} {T : TypeId} {K' : Value → List Assn → Prop}
theorem OpV.app8 {B0 B1 B2 B3 B4 B5 B6 B7 : Assn} {R : List Assn} {A B : Option Addr} {n c m c' sz bytes : Nat} {xs news : List Value} (ht : C.P.underlying T = some (.slice e)) (he : elemT C.P e sz bytes)
    (hx : env.ev x = .slice A n c) (hy : env.ev y = .slice B m c') (hs : Has C (B0 :: B1 :: B2 :: B3 :: B4 :: B5 :: B6 :: B7 :: OwnA e sz A n c xs :: R) (SlA B news)) (hl : news.length = m * sz) (h1 : ∀ u ∈ news, u.oneCell' = true)
    (h63 : n + m ≤ maxLen) (hby : (n + m) * bytes ≤ 140737488355328)
    (h : ∀ A' c', K' (.slice A' (n + m) c') (B0 :: B1 :: B2 :: B3 :: B4 :: B5 :: B6 :: B7 :: OwnA e sz A' (n + m) c' (xs ++ news) :: R)) :
    OpV C ⟨dst, .call { callee := .builtin .append, args := #[x, y], argTypes := #[T, T] }, ty, pos, after, guard⟩ env (B0 :: B1 :: B2 :: B3 :: B4 :: B5 :: B6 :: B7 :: OwnA e sz A n c xs :: R) K' := OpV.appendG (L1 := [B0, B1, B2, B3, B4, B5, B6, B7]) ht he hx hy hs hl h1 h63 hby h
theorem OpV.storeV8 {dst : Option Tmp} {ty : TypeId} {pos : String} {after : Array Edge} {guard : Option (Nat × Bool)} {x y : Operand} {v : Value} {T T' : TypeId} {K : Value → List Assn → Prop} {B0 B1 B2 B3 B4 B5 B6 B7 : Assn} {R : List Assn} {b : Nat} {cs : List Value}
    (hx : env.ev x = .pointer (some ⟨b, 0, none⟩)) (hy : env.ev y = v) (hs : (C.P.info? T).map (·.size) = some (vl v).length) (h1 : (vl v).all (·.oneCell') = true) (hl : (vl v).length = cs.length)
    (h : K undef (B0 :: B1 :: B2 :: B3 :: B4 :: B5 :: B6 :: B7 :: Blk b T' (vl v) :: R)) : OpV C ⟨dst, .store T x y, ty, pos, after, guard⟩ env (B0 :: B1 :: B2 :: B3 :: B4 :: B5 :: B6 :: B7 :: Blk b T' cs :: R) K :=
  OpV.storeG (L1 := [B0, B1, B2, B3, B4, B5, B6, B7]) hx hy hs h1 (by omega) (spl_all hl) h
theorem OpV.storeV9 {dst : Option Tmp} {ty : TypeId} {pos : String} {after : Array Edge} {guard : Option (Nat × Bool)} {x y : Operand} {v : Value} {T T' : TypeId} {K : Value → List Assn → Prop} {B0 B1 B2 B3 B4 B5 B6 B7 B8 : Assn} {R : List Assn} {b : Nat} {cs : List Value}
    (hx : env.ev x = .pointer (some ⟨b, 0, none⟩)) (hy : env.ev y = v) (hs : (C.P.info? T).map (·.size) = some (vl v).length) (h1 : (vl v).all (·.oneCell') = true) (hl : (vl v).length = cs.length)
    (h : K undef (B0 :: B1 :: B2 :: B3 :: B4 :: B5 :: B6 :: B7 :: B8 :: Blk b T' (vl v) :: R)) : OpV C ⟨dst, .store T x y, ty, pos, after, guard⟩ env (B0 :: B1 :: B2 :: B3 :: B4 :: B5 :: B6 :: B7 :: B8 :: Blk b T' cs :: R) K :=
  OpV.storeG (L1 := [B0, B1, B2, B3, B4, B5, B6, B7, B8]) hx hy hs h1 (by omega) (spl_all hl) h
end Go.E
namespace Go.E
set_option linter.unusedVariables false
set_option linter.unusedSectionVars false
variable {C : Ctx} {env : Env} {L : List Assn}
variable {dst : Option Tmp} {ty : TypeId} {pos : String} {after : Array Edge} {guard : Option (Nat × Bool)} {x y : Operand} {v : Value} {T e : TypeId}
theorem run_part_slice {P : Program} (w : World) {e e' : TypeId} (hu : P.underlying e = some (.slice e')) {xs : Array Value} {off : Nat} {v : Value} (hx : xs[off]? = some v) : (part e xs off).run P w = .ok v w := by
  simp [part, isAgg, run_underlying hu, hx]
theorem Qt.index_aggS {N i : Nat} {ki : IntKind} {cs : Array Value} {e' : TypeId} (ht : C.P.underlying T = some (.array N e)) (hs : (C.P.info? e).map (·.size) = some 1) (hu : C.P.underlying e = some (.slice e')) (hx : env.ev x = .agg cs) (hy : env.ev y = .int ki (i : Int)) (hi : i < N) (hv : cs[i]? = some v) :
    Qt C L ⟨dst, .index T x y, ty, pos, after, guard⟩ env v := fun w _ => by
  obtain ⟨inf, hin, hsz⟩ := Option.map_eq_some_iff.1 hs
  have h1 := run_part_slice (P := C.P) w hu (xs := cs) (off := i * inf.size) (v := v) (by rw [hsz, Nat.mul_one]; exact hv)
  simp [execOp, hx, hy, Instr.index, asIntOf, run_underlying ht, sizeOf, typeInfo, hin, hi, h1]
end Go.E
