/-
  The program logic, fifteenth part: bytes as a string, strings compared, structs of two numbers compared, two bundles told as one.
-/
import Derived.Test.YtgdjcmehlhebdaaGreatDoorP1
import Derived.Test.YtgdjcmehlhebdaaGreatDoorP2
import Derived.Laws.IdiomStrings
namespace Go.E
set_option linter.unusedVariables false
section
variable {C : Ctx} {env : Env} {L : List Assn} {dst : Option Tmp} {ty ty2 : TypeId} {pos : String} {after : Array Edge} {guard : Option (Nat × Bool)} {x y : Operand} {T e src dstT : TypeId}
theorem bytesL_get1 {bs : List UInt8} {j : Nat} (hj : j < bs.length) : (bytesL bs)[j]? = some (.int .u8 (bs[j].toNat : Int)) := by simp [bytesL, hj]
theorem Qt.bytesStr {A : Option Addr} {n c : Nat} {bs : List UInt8} (hs : C.P.underlying src = some (.slice e)) (he : C.P.underlying e = some (.int .u8)) (hd : C.P.underlying dstT = some .string) (hx : env.ev x = .slice A n c) (hn : n = bs.length) (hpos : 0 < bs.length) (h : Has C L (SlA A (bytesL bs))) :
    Qt C L ⟨dst, .convert src dstT x, ty, pos, after, guard⟩ env (.string ⟨bs.toArray⟩) := fun w hw => by
  subst hn
  obtain ⟨a, rfl, _⟩ := h w hw 0 _ (bytesL_get1 hpos)
  have k := run_convert_bytes_back (P := C.P) w src dstT e a c bs hs he hd fun j hj => by
    obtain ⟨a', e', hu⟩ := h w hw j _ (bytesL_get1 hj)
    injection e' with e'; subst e'; exact hu
  simp [execOp, hx, k]
end
variable {C : Ctx} {Q : EQ} {env : Env} {ops : Array Oper}
theorem St.many_two {w0 w : World} {M : List Nat} {L1 L2 R : List Assn} (h : St w0 M (Many L1 :: Many L2 :: R) w) : St w0 M (Many (L1 ++ L2) :: R) w := by
  refine St.many.2 ?_
  have h1 := St.many.1 h
  have h2 : St w0 M (Many L2 :: (L1 ++ R)) w := h1.perm List.perm_middle
  have h3 := St.many.1 h2
  refine h3.perm ?_
  rw [← List.append_assoc]
  exact List.Perm.append_right _ List.perm_append_comm
theorem TL.manyTwo {L1 L2 R L0 : List Assn} {l : List Oper} (s : L0.Perm (Many L1 :: Many L2 :: R)) (h : TL C ops Q l env (Many (L1 ++ L2) :: R)) : TL C ops Q l env L0 := fun a w ha hw => h a w ha ((hw.perm s).many_two)
theorem getD_eq {α : Type} {s : List α} {k : Nat} (d : α) (h : k < s.length) : s.getD k d = s[k] := by simp [List.getD, h]
/-- A node's part, whatever its lists. -/
def RefOk (zs : List ((Nat × Nat) × H32)) (zl : List (Nat × H32)) (l p : Nat) : Prop := ∃ xs ls bs, Part zs zl l p xs ls bs ∧ xs.length ≤ 256
variable {zs : List ((Nat × Nat) × H32)} {zl : List (Nat × H32)} {l p : Nat}
theorem RefOk.leaf (h : RefOk zs zl 0 p) (e : look (0, p) zs = none) (e2 : look p zl = none) : False := by
  obtain ⟨xs, ls, bs, k, _⟩ := h
  by_cases hx : xs = []
  · subst hx; rw [k.found] at e; cases e
  · rw [(k.leaf hx).2] at e2; cases e2
theorem RefOk.len (h : RefOk zs zl l p) : (refT zs zl l p).length ≤ 256 * l := by
  obtain ⟨xs, ls, bs, k, kn⟩ := h
  rw [Part.txt l p xs ls bs k]; exact Nat.le_trans (climbT_len ..) (Nat.mul_le_mul_right _ kn)
end Go.E
