/-
  The program logic, fifteenth part: bytes as a string, strings compared, structs of two numbers compared, two bundles told as one.
-/
import Derived.Test.YtgdjcmehlhebdaaGreatDoorP1
import Derived.Test.YtgdjcmehlhebdaaGreatDoorP2
import Derived.Laws.IdiomStrings
namespace Go.E
set_option linter.unusedVariables false
section
variable {C : Ctx} {env : Env} {L : List Assn} {dst : Option Tmp} {ty ty2 : TypeId} {pos : String} {after : Array Edge} {guard : Option (Nat × Bool)} {x y : Operand} {T e src dstT : TypeId}
theorem bytesL_get1 {bs : List UInt8} {j : Nat} (hj : j < bs.length) : (bytesL bs)[j]? = some (.int .u8 (bs[j].toNat : Int)) := by simp [bytesL, hj]
theorem Qt.bytesStr {A : Option Addr} {n c : Nat} {bs : List UInt8} (hs : C.P.underlying src = some (.slice e)) (he : C.P.underlying e = some (.int .u8)) (hd : C.P.underlying dstT = some .string) (hx : env.ev x = .slice A n c) (hn : n = bs.length) (hpos : 0 < bs.length) (h : Has C L (SlA A (bytesL bs))) :
    Qt C L ⟨dst, .convert src dstT x, ty, pos, after, guard⟩ env (.string ⟨bs.toArray⟩) := fun w hw => by
  subst hn
  obtain ⟨a, rfl, _⟩ := h w hw 0 _ (bytesL_get1 hpos)
  have k := run_convert_bytes_back (P := C.P) w src dstT e a c bs hs he hd fun j hj => by
    obtain ⟨a', e', hu⟩ := h w hw j _ (bytesL_get1 hj)
    injection e' with e'; subst e'; exact hu
  simp [execOp, hx, k]
theorem Qt.eqAt {a b : Nat × Nat} (hm : C.P.eqGuardType C.P.depth T = false) (law : KeyLaw C.P T encAt) (hx : env.ev x = encAt a) (hy : env.ev y = encAt b) : Qt C L ⟨dst, .binOp .eql T x y ty2, ty, pos, after, guard⟩ env (.bool (decide (a = b))) := fun w _ => by
  have h := law.eq a b w
  have h2 : (binOp .eql T (encAt a) (encAt b)).run C.P w = .ok (.bool (decide (a = b))) w := by
    rw [show encAt a = .agg #[.int .i64 (a.1 : Int), .int .u64 (a.2 : Int)] from rfl, show encAt b = .agg #[.int .i64 (b.1 : Int), .int .u64 (b.2 : Int)] from rfl] at h ⊢
    rw [run_eql_struct]
    rw [show (Op.equalIn 10000 T (.agg #[.int .i64 (a.1 : Int), .int .u64 (a.2 : Int)]) (.agg #[.int .i64 (b.1 : Int), .int .u64 (b.2 : Int)])).run C.P w = .ok (decide (a = b)) w from h]; rfl
  have h3 : (eqGuard .eql T x y (encAt a) (encAt b)).run C.P w = .ok () w := run_eqGuard_agg w .eql T x y _ _ hm
  simp [execOp, hx, hy, h2, h3]
end
variable {C : Ctx} {Q : EQ} {env : Env} {ops : Array Oper}
theorem St.many_two {w0 w : World} {M : List Nat} {L1 L2 R : List Assn} (h : St w0 M (Many L1 :: Many L2 :: R) w) : St w0 M (Many (L1 ++ L2) :: R) w := by
  refine St.many.2 ?_
  have h1 := St.many.1 h
  have h2 : St w0 M (Many L2 :: (L1 ++ R)) w := h1.perm List.perm_middle
  have h3 := St.many.1 h2
  refine h3.perm ?_
  rw [← List.append_assoc]
  exact List.Perm.append_right _ List.perm_append_comm
theorem TL.manyTwo {L1 L2 R L0 : List Assn} {l : List Oper} (s : L0.Perm (Many L1 :: Many L2 :: R)) (h : TL C ops Q l env (Many (L1 ++ L2) :: R)) : TL C ops Q l env L0 := fun a w ha hw => h a w ha ((hw.perm s).many_two)
theorem getD_eq {α : Type} {s : List α} {k : Nat} (d : α) (h : k < s.length) : s.getD k d = s[k] := by simp [List.getD, h]
theorem look_missing {κ : Type} [DecidableEq κ] {s : List κ} {bs : List H32} {a : κ} (d : κ) (h : ∀ j, j < s.length → s.getD j d ≠ a) : look a (s.zip bs) = none :=
  look_zip_none a s bs fun hm => by
    obtain ⟨j, hj, e⟩ := List.mem_iff_getElem.1 hm
    exact h j hj (by rw [getD_eq d hj, e])
theorem look_first {κ : Type} [DecidableEq κ] {a : κ} (d : κ) : ∀ {s : List κ} {bs : List H32} {k : Nat}, k < s.length → s.length = bs.length → (∀ j, j < k → s.getD j d ≠ a) → s.getD k d = a → look a (s.zip bs) = some (bs.getD k zeroH)
  | [], _, _, hk, _, _, _ => absurd hk (Nat.not_lt_zero _)
  | _ :: _, [], _, _, hl, _, _ => by cases hl
  | x :: s, b :: bs, 0, _, _, _, h2 => by
    rw [List.zip_cons_cons, look_cons, if_pos (by simpa using h2.symm)]; simp
  | x :: s, b :: bs, k + 1, hk, hl, h1, h2 => by
    rw [List.zip_cons_cons, look_cons, if_neg (fun e => h1 0 (Nat.succ_pos _) (by simpa using e.symm))]
    have := look_first d (s := s) (bs := bs) (k := k) (a := a) (by simpa using hk) (by simpa using hl) (fun j hj => by have := h1 (j + 1) (by omega); simpa using this) (by simpa using h2)
    simpa using this
/-- A node's part, whatever its lists. -/
def RefOk (zs : List ((Nat × Nat) × H32)) (zl : List (Nat × H32)) (l p : Nat) : Prop := ∃ xs ls bs, Part zs zl l p xs ls bs ∧ xs.length ≤ 256
variable {zs : List ((Nat × Nat) × H32)} {zl : List (Nat × H32)} {l p : Nat}
theorem RefOk.kids (h : RefOk zs zl (l + 1) p) (e : look (l + 1, p) zs = none) : RefOk zs zl l (2 * p) ∧ RefOk zs zl l (2 * p + 1) := by
  obtain ⟨xs, ls, bs, k, kn⟩ := h
  have hx : xs ≠ [] := fun e0 => by subst e0; rw [k.found] at e; cases e
  exact ⟨⟨_, _, _, k.left hx, Nat.le_trans (cutN_len ..) kn⟩, ⟨_, _, _, k.right hx, Nat.le_trans (cutN_len ..) kn⟩⟩
theorem RefOk.leaf (h : RefOk zs zl 0 p) (e : look (0, p) zs = none) (e2 : look p zl = none) : False := by
  obtain ⟨xs, ls, bs, k, _⟩ := h
  by_cases hx : xs = []
  · subst hx; rw [k.found] at e; cases e
  · rw [(k.leaf hx).2] at e2; cases e2
theorem RefOk.len (h : RefOk zs zl l p) : (refT zs zl l p).length ≤ 256 * l := by
  obtain ⟨xs, ls, bs, k, kn⟩ := h
  rw [Part.txt l p xs ls bs k]; exact Nat.le_trans (climbT_len ..) (Nat.mul_le_mul_right _ kn)
theorem sdL_row {s : Sd} {k : Nat} (h : k < s.length) : ∀ (j : Nat) (v : Value), ([.int .i64 ((s.getD k (0, 0)).1 : Int), .int .u64 ((s.getD k (0, 0)).2 : Int)] : List Value)[j]? = some v → (sdL s)[k * 2 + j]? = some v :=
  flat_at (encL := fun a : Nat × Nat => [.int .i64 (a.1 : Int), .int .u64 (a.2 : Int)]) (sz := 2) (fun _ => rfl) s k _ (getD_some (0, 0) h)
end Go.E
