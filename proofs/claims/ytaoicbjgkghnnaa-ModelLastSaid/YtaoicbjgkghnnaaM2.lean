/-
  Acts as cells; conversions that wrap.
-/
import Derived.Test.YtaoicbjgkghnnaaM1
import Derived.Test.YtaoicbjgkghnnaaE2
namespace Go.E
def uw (k : Int) : Nat := (k % 18446744073709551616).toNat
theorem wrap_uw (k : Int) : IntKind.u64.wrap k = ((uw k : Nat) : Int) := by
  have : (0 : Int) ≤ k % 18446744073709551616 := Int.emod_nonneg _ (by decide)
  unfold IntKind.wrap uw
  simp [IntKind.bits, IntKind.signed]
  omega
theorem Qt.conv_wrap {C : Ctx} {env : Env} {L : List Assn} {dst : Option Tmp} {ty : TypeId} {pos : String} {after : Array Edge} {guard : Option (Nat × Bool)} {x : Operand} {src dstT : TypeId} {ki : IntKind} {k : Int} (h1 : C.P.underlying src = some (.int ki)) (h2 : C.P.underlying dstT = some (.int .u64)) (hx : env.ev x = .int ki k) :
    Qt C L ⟨dst, .convert src dstT x, ty, pos, after, guard⟩ env (.int .u64 ((uw k : Nat) : Int)) := by
  have h := Qt.convertw (C := C) (L := L) (dst := dst) (ty := ty) (pos := pos) (after := after) (guard := guard) h1 h2 hx
  rw [wrap_uw] at h
  exact h
structure Act5 where
  k : Int
  A : Option Addr
  n : Nat
  c : Nat
  B : Option Addr
  m : Nat
  d : Nat
  f : Nat
  q : Int
def act50 : Act5 := ⟨0, none, 0, 0, none, 0, 0, 0, 0⟩
def acell (a : Act5) : List Value := [.int .i64 a.k, .slice a.A a.n a.c, .slice a.B a.m a.d, .int .u64 (a.f : Int), .int .i64 a.q]
def acs (l : List Act5) : List Value := l.flatMap acell
theorem acs_length : ∀ l : List Act5, (acs l).length = l.length * 5
  | [] => rfl
  | a :: l => by
    have := acs_length l
    simp only [acs, List.flatMap_cons, List.length_append, List.length_cons] at this ⊢
    rw [this]; simp [acell]; omega
theorem acs_at : ∀ {l : List Act5} {i k : Nat}, i < l.length → k = i * 5 → ∀ j v, (acell (l.getD i act50))[j]? = some v → (acs l)[k + j]? = some v
  | a :: l, 0, k, _, hk, j, v, h => by
    subst hk
    have hj : j < (acell a).length := (List.getElem?_eq_some_iff.1 h).1
    simp only [Nat.zero_mul, Nat.zero_add, acs, List.flatMap_cons]
    rw [List.getElem?_append_left hj]; exact h
  | a :: l, i + 1, k, hi, hk, j, v, h => by
    subst hk
    have ih := acs_at (l := l) (i := i) (by simpa using hi) rfl j v (by simpa using h)
    simp only [acs, List.flatMap_cons]
    rw [List.getElem?_append_right (by simp [acell]; omega)]
    rw [show (i + 1) * 5 + j - (acell a).length = i * 5 + j by simp [acell]; omega]
    exact ih
def longS (l : List Act5) : Int := l.foldl (fun s a => IntKind.i64.wrap (s + IntKind.i64.wrap ((a.n : Int) + (a.m : Int)))) 0
theorem longS_take (l : List Act5) (k : Nat) (h : k < l.length) : longS (l.take (k + 1)) = IntKind.i64.wrap (longS (l.take k) + IntKind.i64.wrap (((l.getD k act50).n : Int) + ((l.getD k act50).m : Int))) := by
  unfold longS
  rw [List.take_succ_eq_append_getElem h, List.foldl_append]
  simp [List.getD, h]
def longB (l : List Act5) : Bool := decide (40 < l.length) || decide (1200 < longS l)
end Go.E
