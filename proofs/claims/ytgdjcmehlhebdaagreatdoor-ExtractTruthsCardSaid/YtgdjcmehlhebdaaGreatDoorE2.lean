/- Shorter forms of the commonest steps. -/
import Derived.Test.YtgdjcmehlhebdaaGreatDoorE1
import Derived.RangeFuncSeq
import Derived.RangeFuncOwn
import Derived.Laws.Externs
set_option maxHeartbeats 25600000
set_option linter.all false
namespace Go.E
section short
variable {C : Ctx} {Q : EQ} {env : Env} {L : List Assn} {ops : Array Oper} {rest : List Oper} {d : Nat} {op : Op} {ty : TypeId} {po : String} {af : Array Edge} {v : Value} {gd : Nat × Bool} {x : Operand} {E : List Nat × List Nat} {F : List Assn} {dn : List Nat}
theorem o8 (k : TL C ops Q rest (env.put d v) L) (hx : env.ev x = v := by conv => lhs; whnf) (hd : Nat.blt d C.n = true := by exact rfl) (hnd : q8 ⟨some d, .move x, ty, po, af, none⟩ = false := by exact rfl) : TL C ops Q (⟨some d, .move x, ty, po, af, none⟩ :: rest) env L := LY hd hnd (m8 hx) k
theorem C3 (k : TL C ops Q rest (env.put d v) L) (hx : env.ev x = v := by conv => lhs; whnf) (hd : Nat.blt d C.n = true := by exact rfl) (hnd : q8 ⟨some d, .assign x, ty, po, af, none⟩ = false := by exact rfl) : TL C ops Q (⟨some d, .assign x, ty, po, af, none⟩ :: rest) env L := LY hd hnd (G9 hx) k
theorem c6 (k : Nat) (ho : ops[k]? = some ⟨some d, op, ty, po, af, none⟩) (hy : Qt C L ⟨some d, op, ty, po, af, none⟩ env v) (h : AWl C ops Q E F (k :: dn) (env.put d v) L)
  (hk : (R0 ops dn k && F4 ops ⟨some d, op, ty, po, af, none⟩) = true := by kernel_rfl) (hsel : H6 ops = true := by kernel_rfl) (hc : eO ops E dn k = true := by kernel_rfl) (hd : Nat.blt d C.n = true := by exact rfl) (hnd : q8 ⟨some d, op, ty, po, af, none⟩ = false := by exact rfl)
  (hE : has E.1 k = false ∧ has E.2 k = false := by exact ⟨rfl, rfl⟩) : AWl C ops Q E F dn env L := JS ho hk hsel hc hd hnd hy h hE
theorem e6 (h : Qt C L ⟨some d, op, ty, po, af, none⟩ env v) (k : TL C ops Q rest (env.put d v) L) (hd : Nat.blt d C.n = true := by exact rfl) (hnd : q8 ⟨some d, op, ty, po, af, none⟩ = false := by exact rfl) : TL C ops Q (⟨some d, op, ty, po, af, none⟩ :: rest) env L := LY hd hnd h k
theorem z7 (h : OpV C ⟨some d, op, ty, po, af, none⟩ env L fun v L' => TL C ops Q rest (env.put d v) L') (hd : Nat.blt d C.n = true := by exact rfl) (hnd : q8 ⟨some d, op, ty, po, af, none⟩ = false := by exact rfl) : TL C ops Q (⟨some d, op, ty, po, af, none⟩ :: rest) env L := CY hd hnd h
theorem S.e {i : Nat} (h : Qt C L ⟨some d, .extract x i, ty, po, af, none⟩ env v) (k : TL C ops Q rest (env.put d v) L) (hd : Nat.blt d C.n = true := by exact rfl) (hnd : q8 ⟨some d, .extract x i, ty, po, af, none⟩ = false := by exact rfl) : TL C ops Q (⟨some d, .extract x i, ty, po, af, none⟩ :: rest) env L := LY hd hnd h k
theorem jU (k : Nat) (ho : ops[k]? = some ⟨some d, op, ty, po, af, none⟩) (hy : Qt C F ⟨some d, op, ty, po, af, none⟩ env v) (h : AWl C ops Q E F (k :: dn) (env.put d v) L)
  (hk : (R0 ops dn k && F4 ops ⟨some d, op, ty, po, af, none⟩) = true := by kernel_rfl) (hsel : H6 ops = true := by kernel_rfl) (hd : Nat.blt d C.n = true := by exact rfl) (hnd : q8 ⟨some d, op, ty, po, af, none⟩ = false := by exact rfl)
  (hE : has E.1 k = false ∧ has E.2 k = false := by exact ⟨rfl, rfl⟩) : AWl C ops Q E F dn env L := LL ho hk hsel hd hnd hy h hE
theorem C2 (k : Nat) (ho : ops[k]? = some ⟨some d, op, ty, po, af, some gd⟩) (hw : A3 ops env ⟨some d, op, ty, po, af, some gd⟩ = true) (hy : Qt C L ⟨some d, op, ty, po, af, some gd⟩ env v) (h : AWl C ops Q E F (k :: dn) (env.put d v) L)
  (hk : (R0 ops dn k && F4 ops ⟨some d, op, ty, po, af, some gd⟩) = true := by kernel_rfl) (hsel : H6 ops = true := by kernel_rfl) (hc : eO ops E dn k = true := by kernel_rfl) (hd : Nat.blt d C.n = true := by exact rfl) (hnd : q8 ⟨some d, op, ty, po, af, some gd⟩ = false := by exact rfl)
  (hE : has E.1 k = false ∧ has E.2 k = false := by exact ⟨rfl, rfl⟩) : AWl C ops Q E F dn env L := GA ho hk hsel hc hd hnd hw hy h hE
theorem uH (k : Nat) (ho : ops[k]? = some ⟨some d, op, ty, po, af, some gd⟩) (hw : A3 ops env ⟨some d, op, ty, po, af, some gd⟩ = false) (h : AWl C ops Q E F (k :: dn) (env.put d undef) L)
  (hk : (R0 ops dn k && F4 ops ⟨some d, op, ty, po, af, some gd⟩) = true := by kernel_rfl) (hsel : H6 ops = true := by kernel_rfl) (hd : Nat.blt d C.n = true := by exact rfl) (hnd : q8 ⟨some d, op, ty, po, af, some gd⟩ = false := by exact rfl) : AWl C ops Q E F dn env L := IG ho hk hsel hd hnd hw h
theorem D7 {t : Nat} {φ : Value → List Assn → Prop} {L' : List Assn} (hs : Sub L' L) (hφ : φ (nF [v]) L') (ht : env t = v := by conv => lhs; whnf) (hd : env.ds = [] := by rfl) : finQ C [.tmp t] φ .ret env L := finQ.ret (aV ht n9) hs hφ hd
theorem rv {rs : List ResultVar} {vs : List Value} (h : RVs C env L rs vs := by repeat (first | with_reducible exact n9 | ((with_reducible apply aV); (conv => lhs; whnf)))) : RVs C env L rs vs := h
theorem fR {rs : List ResultVar} {vs : List Value} {φ : Value → List Assn → Prop} (hφ : φ (nF vs) []) (hr : RVs C env L rs vs := by repeat (first | with_reducible exact n9 | ((with_reducible apply aV); (conv => lhs; whnf)))) (hd : env.ds = [] := by rfl) : finQ C rs φ .ret env L := finQ.ret hr (Sub.nil _) hφ hd
theorem cw {α : Type} {a b : α} (h : a = b := by conv => lhs; whnf) : a = b := h
theorem km {p : Prop} (h : p := by simp only [H1]; omega) : p := h
theorem w5 {A : Assn} {L : List Assn} : Has C (A :: L) A := s6 0 rfl
theorem N3 {A B : Assn} {L : List Assn} : Has C (B :: A :: L) A := s6 1 rfl
theorem aH {A B D : Assn} {L : List Assn} : Has C (B :: D :: A :: L) A := s6 2 rfl
theorem tV {A B D E : Assn} {L : List Assn} : Has C (B :: D :: E :: A :: L) A := s6 3 rfl
end short
section many
variable {C : Ctx} {Q : EQ} {env : Env} {L : List Assn} {ops : Array Oper} {rest : List Oper} {d : Nat} {op : Op} {ty : TypeId} {po : String} {af : Array Edge} {v : Value} {gd : Nat × Bool} {x : Operand}
theorem zjL (hx : env.ev x = v) (hd : Nat.blt d C.n = true) (hnd : q8 ⟨some d, .move x, ty, po, af, none⟩ = false) (k : TL C ops Q rest (env.put d v) L) : TL C ops Q (⟨some d, .move x, ty, po, af, none⟩ :: rest) env L := LY hd hnd (m8 hx) k
theorem zjJ (hx : env.ev x = v) (hd : Nat.blt d C.n = true) (hnd : q8 ⟨some d, .assign x, ty, po, af, none⟩ = false) (k : TL C ops Q rest (env.put d v) L) : TL C ops Q (⟨some d, .assign x, ty, po, af, none⟩ :: rest) env L := LY hd hnd (G9 hx) k
theorem S.e0 {i : Nat} (h : Qt C L ⟨some d, .extract x i, ty, po, af, none⟩ env v) (hd : Nat.blt d C.n = true) (hnd : q8 ⟨some d, .extract x i, ty, po, af, none⟩ = false) (k : TL C ops Q rest (env.put d v) L) : TL C ops Q (⟨some d, .extract x i, ty, po, af, none⟩ :: rest) env L := LY hd hnd h k
theorem KX {y : Code} (h : TC C y Q env L) : TL C ops (JO C y Q) [] env L := l3 h
theorem KF {y : Code} (h : TC C y Q env L) : TC C .skip (JO C y Q) env L := w8 h
theorem zjO {y z : Operand} (hc : env.ev x = .bool true) (hy : env.ev y = v) (hd : Nat.blt d C.n = true) (hnd : q8 ⟨some d, .pick x y z, ty, po, af, none⟩ = false) (k : TL C ops Q rest (env.put d v) L) : TL C ops Q (⟨some d, .pick x y z, ty, po, af, none⟩ :: rest) env L := LY hd hnd (gT hc hy) k
theorem zjN {y z : Operand} (hc : env.ev x = .bool false) (hy : env.ev z = v) (hd : Nat.blt d C.n = true) (hnd : q8 ⟨some d, .pick x y z, ty, po, af, none⟩ = false) (k : TL C ops Q rest (env.put d v) L) : TL C ops Q (⟨some d, .pick x y z, ty, po, af, none⟩ :: rest) env L := LY hd hnd (X7 hc hy) k
def DO (P : Program) (t : TypeId) : Bool := match P.underlying t with | some (.slice _) => true | _ => false
theorem zjK {t : TypeId} {A : y8} {n c : Nat} (hx : env.ev x = .slice A n c) (ht : DO C.P t = true) (hd : Nat.blt d C.n = true) (hnd : q8 ⟨some d, .call { callee := .builtin .len, args := #[x], argTypes := #[t] }, ty, po, af, none⟩ = false) (k : TL C ops Q rest (env.put d (.int .i64 (n : Int))) L) : TL C ops Q (⟨some d, .call { callee := .builtin .len, args := #[x], argTypes := #[t] }, ty, po, af, none⟩ :: rest) env L := by
 unfold DO at ht
 split at ht
 ·rename_i e he; exact LY hd hnd (D6 he hx) k
 ·cases ht
theorem go {R G : Prop} (k : R) (h : R → G := by intro h; (repeat first | ((with_reducible apply zjL); (conv => lhs; whnf); exact rfl; exact rfl) | ((with_reducible apply zjJ); (conv => lhs; whnf); exact rfl; exact rfl) | with_reducible refine KX ?_ | with_reducible refine c8 ?_ | with_reducible refine c7 ?_ | with_reducible refine l3 ?_ | ((with_reducible apply S.e0); exact s8 rfl rfl; exact rfl; exact rfl) | ((with_reducible refine IM ?_ ?_ ?_); exact rfl; exact rfl) | ((with_reducible apply zjO); exact rfl; (conv => lhs; whnf); exact rfl; exact rfl) | ((with_reducible apply zjN); exact rfl; (conv => lhs; whnf); exact rfl; exact rfl) | ((with_reducible apply zjK); exact rfl; kernel_rfl; exact rfl; exact rfl) | with_reducible refine C5 ?_ | with_reducible refine KF ?_ | with_reducible refine w8 ?_ | ((with_reducible refine Q3 ?_ ?_); exact rfl) | ((with_reducible refine C4 ?_ ?_); exact rfl)); exact h) : G := h k
end many
set_option linter.unusedSectionVars false
variable {C : Ctx} {env : Env} {L : List Assn}
variable {κ α : Type} [DecidableEq κ] {K E e : TypeId} {enc : κ → Value} {encv : α → Value}
variable {dst : Option Tmp} {ty : TypeId} {po : String} {af : Array Edge} {gj : Option (Nat × Bool)} {x y z : Operand} {v : Value} {T : TypeId} {b : Nat} {ms : List (κ × α)} {k : κ} {a : α} {K' : Value → List Assn → Prop}
theorem Y6 {R : List Assn} {A B : y8} {n c m c' sz bytes : Nat} {xs news : List Value} (ht : C.P.underlying T = some (.slice e)) (he : S3 C.P e sz bytes)
  (hx : env.ev x = .slice A n c) (hy : env.ev y = .slice B m c') (hs : Has C (OwnA e sz A n c xs :: R) (SlA B news)) (hl : news.length = m * sz) (h1 : ∀ u ∈ news, u.oneCell' = true)
  (h63 : n + m ≤ maxLen) (hby : (n + m) * bytes ≤ 140737488355328)
  (h : ∀ A' c', K' (.slice A' (n + m) c') (OwnA e sz A' (n + m) c' (xs ++ news) :: R)) :
  OpV C ⟨dst, .call { callee := .builtin .append, args := #[x, y], argTypes := #[T, T] }, ty, po, af, gj⟩ env (OwnA e sz A n c xs :: R) K' := V6 (L1 := []) ht he hx hy hs hl h1 h63 hby h
theorem G1 {B0 : Assn} {R : List Assn} {A B : y8} {n c m c' sz bytes : Nat} {xs news : List Value} (ht : C.P.underlying T = some (.slice e)) (he : S3 C.P e sz bytes)
  (hx : env.ev x = .slice A n c) (hy : env.ev y = .slice B m c') (hs : Has C (B0 :: OwnA e sz A n c xs :: R) (SlA B news)) (hl : news.length = m * sz) (h1 : ∀ u ∈ news, u.oneCell' = true)
  (h63 : n + m ≤ maxLen) (hby : (n + m) * bytes ≤ 140737488355328)
  (h : ∀ A' c', K' (.slice A' (n + m) c') (B0 :: OwnA e sz A' (n + m) c' (xs ++ news) :: R)) :
  OpV C ⟨dst, .call { callee := .builtin .append, args := #[x, y], argTypes := #[T, T] }, ty, po, af, gj⟩ env (B0 :: OwnA e sz A n c xs :: R) K' := V6 (L1 := [B0]) ht he hx hy hs hl h1 h63 hby h
theorem zbN {B0 B1 : Assn} {R : List Assn} (ht : C.P.underlying T = some (.map K E)) (law : KeyLaw C.P K enc) (hx : env.ev x = .map (some b)) (hy : env.ev y = enc k) (hz : env.ev z = encv a)
  (h : K' undef (B0 :: B1 :: u6 b enc encv (gQ k a ms) :: R)) : OpV C ⟨dst, .mapUpdate T x y z, ty, po, af, gj⟩ env (B0 :: B1 :: u6 b enc encv ms :: R) K' := jW (L1 := [B0, B1]) ht law hx hy hz h
theorem zbL {B0 B1 : Assn} {R : List Assn} {tys : Array TypeId} (htys : tys[0]? = some T) (ht : C.P.underlying T = some (.map K E)) (law : KeyLaw C.P K enc) (hx : env.ev x = .map (some b)) (hy : env.ev y = enc k)
  (h : K' (.tuple #[]) (B0 :: B1 :: u6 b enc encv (Y9 k ms) :: R)) : OpV C ⟨dst, .call { callee := .builtin .delete, args := #[x, y], argTypes := tys }, ty, po, af, gj⟩ env (B0 :: B1 :: u6 b enc encv ms :: R) K' := rF (L1 := [B0, B1]) htys ht law hx hy h
theorem Q1 {B0 B1 : Assn} {R : List Assn} {A B : y8} {n c m c' sz bytes : Nat} {xs news : List Value} (ht : C.P.underlying T = some (.slice e)) (he : S3 C.P e sz bytes)
  (hx : env.ev x = .slice A n c) (hy : env.ev y = .slice B m c') (hs : Has C (B0 :: B1 :: OwnA e sz A n c xs :: R) (SlA B news)) (hl : news.length = m * sz) (h1 : ∀ u ∈ news, u.oneCell' = true)
  (h63 : n + m ≤ maxLen) (hby : (n + m) * bytes ≤ 140737488355328)
  (h : ∀ A' c', K' (.slice A' (n + m) c') (B0 :: B1 :: OwnA e sz A' (n + m) c' (xs ++ news) :: R)) :
  OpV C ⟨dst, .call { callee := .builtin .append, args := #[x, y], argTypes := #[T, T] }, ty, po, af, gj⟩ env (B0 :: B1 :: OwnA e sz A n c xs :: R) K' := V6 (L1 := [B0, B1]) ht he hx hy hs hl h1 h63 hby h
theorem zbO {B0 B1 B2 : Assn} {R : List Assn} (ht : C.P.underlying T = some (.map K E)) (law : KeyLaw C.P K enc) (hx : env.ev x = .map (some b)) (hy : env.ev y = enc k) (hz : env.ev z = encv a)
  (h : K' undef (B0 :: B1 :: B2 :: u6 b enc encv (gQ k a ms) :: R)) : OpV C ⟨dst, .mapUpdate T x y z, ty, po, af, gj⟩ env (B0 :: B1 :: B2 :: u6 b enc encv ms :: R) K' := jW (L1 := [B0, B1, B2]) ht law hx hy hz h
theorem zbM {B0 B1 B2 : Assn} {R : List Assn} {tys : Array TypeId} (htys : tys[0]? = some T) (ht : C.P.underlying T = some (.map K E)) (law : KeyLaw C.P K enc) (hx : env.ev x = .map (some b)) (hy : env.ev y = enc k)
  (h : K' (.tuple #[]) (B0 :: B1 :: B2 :: u6 b enc encv (Y9 k ms) :: R)) : OpV C ⟨dst, .call { callee := .builtin .delete, args := #[x, y], argTypes := tys }, ty, po, af, gj⟩ env (B0 :: B1 :: B2 :: u6 b enc encv ms :: R) K' := rF (L1 := [B0, B1, B2]) htys ht law hx hy h
theorem S9 {B0 B1 B2 : Assn} {R : List Assn} {A B : y8} {n c m c' sz bytes : Nat} {xs news : List Value} (ht : C.P.underlying T = some (.slice e)) (he : S3 C.P e sz bytes)
  (hx : env.ev x = .slice A n c) (hy : env.ev y = .slice B m c') (hs : Has C (B0 :: B1 :: B2 :: OwnA e sz A n c xs :: R) (SlA B news)) (hl : news.length = m * sz) (h1 : ∀ u ∈ news, u.oneCell' = true)
  (h63 : n + m ≤ maxLen) (hby : (n + m) * bytes ≤ 140737488355328)
  (h : ∀ A' c', K' (.slice A' (n + m) c') (B0 :: B1 :: B2 :: OwnA e sz A' (n + m) c' (xs ++ news) :: R)) :
  OpV C ⟨dst, .call { callee := .builtin .append, args := #[x, y], argTypes := #[T, T] }, ty, po, af, gj⟩ env (B0 :: B1 :: B2 :: OwnA e sz A n c xs :: R) K' := V6 (L1 := [B0, B1, B2]) ht he hx hy hs hl h1 h63 hby h
theorem jV {B0 B1 B2 B3 : Assn} {R : List Assn} {A B : y8} {n c m c' sz bytes : Nat} {xs news : List Value} (ht : C.P.underlying T = some (.slice e)) (he : S3 C.P e sz bytes)
  (hx : env.ev x = .slice A n c) (hy : env.ev y = .slice B m c') (hs : Has C (B0 :: B1 :: B2 :: B3 :: OwnA e sz A n c xs :: R) (SlA B news)) (hl : news.length = m * sz) (h1 : ∀ u ∈ news, u.oneCell' = true)
  (h63 : n + m ≤ maxLen) (hby : (n + m) * bytes ≤ 140737488355328)
  (h : ∀ A' c', K' (.slice A' (n + m) c') (B0 :: B1 :: B2 :: B3 :: OwnA e sz A' (n + m) c' (xs ++ news) :: R)) :
  OpV C ⟨dst, .call { callee := .builtin .append, args := #[x, y], argTypes := #[T, T] }, ty, po, af, gj⟩ env (B0 :: B1 :: B2 :: B3 :: OwnA e sz A n c xs :: R) K' := V6 (L1 := [B0, B1, B2, B3]) ht he hx hy hs hl h1 h63 hby h
theorem CR {B0 B1 B2 B3 B4 : Assn} {R : List Assn} {A B : y8} {n c m c' sz bytes : Nat} {xs news : List Value} (ht : C.P.underlying T = some (.slice e)) (he : S3 C.P e sz bytes)
  (hx : env.ev x = .slice A n c) (hy : env.ev y = .slice B m c') (hs : Has C (B0 :: B1 :: B2 :: B3 :: B4 :: OwnA e sz A n c xs :: R) (SlA B news)) (hl : news.length = m * sz) (h1 : ∀ u ∈ news, u.oneCell' = true)
  (h63 : n + m ≤ maxLen) (hby : (n + m) * bytes ≤ 140737488355328)
  (h : ∀ A' c', K' (.slice A' (n + m) c') (B0 :: B1 :: B2 :: B3 :: B4 :: OwnA e sz A' (n + m) c' (xs ++ news) :: R)) :
  OpV C ⟨dst, .call { callee := .builtin .append, args := #[x, y], argTypes := #[T, T] }, ty, po, af, gj⟩ env (B0 :: B1 :: B2 :: B3 :: B4 :: OwnA e sz A n c xs :: R) K' := V6 (L1 := [B0, B1, B2, B3, B4]) ht he hx hy hs hl h1 h63 hby h
theorem zgp {B0 B1 B2 B3 B4 B5 : Assn} {R : List Assn} {A B : y8} {n c m c' sz bytes : Nat} {xs news : List Value} (ht : C.P.underlying T = some (.slice e)) (he : S3 C.P e sz bytes)
  (hx : env.ev x = .slice A n c) (hy : env.ev y = .slice B m c') (hs : Has C (B0 :: B1 :: B2 :: B3 :: B4 :: B5 :: OwnA e sz A n c xs :: R) (SlA B news)) (hl : news.length = m * sz) (h1 : ∀ u ∈ news, u.oneCell' = true)
  (h63 : n + m ≤ maxLen) (hby : (n + m) * bytes ≤ 140737488355328)
  (h : ∀ A' c', K' (.slice A' (n + m) c') (B0 :: B1 :: B2 :: B3 :: B4 :: B5 :: OwnA e sz A' (n + m) c' (xs ++ news) :: R)) :
  OpV C ⟨dst, .call { callee := .builtin .append, args := #[x, y], argTypes := #[T, T] }, ty, po, af, gj⟩ env (B0 :: B1 :: B2 :: B3 :: B4 :: B5 :: OwnA e sz A n c xs :: R) K' := V6 (L1 := [B0, B1, B2, B3, B4, B5]) ht he hx hy hs hl h1 h63 hby h
/-! ### hashes and blocks: 32 bytes -/
def i6 := { l : List UInt8 // l.length = 32 }
instance : DecidableEq i6 := fun a b => decidable_of_iff (a.1 = b.1) ⟨Subtype.ext, fun h => h ▸ rfl⟩
def e9 (l : List UInt8) : List Value := l.map fun b => .int .u8 (b.toNat : Int)
def L8 (h : i6) : List Value := e9 h.1
def hv (h : i6) : Value := .agg (L8 h).toArray
theorem o3 (l : List UInt8) : (e9 l).length = l.length := by simp [e9]
theorem l6 (h : i6) : (L8 h).length = 32 := by rw [L8, o3]; exact h.2
theorem mQ (h : i6) : vl (hv h) = L8 h := by simp [hv, vl]
theorem r9 (l : List UInt8) : ∀ u ∈ e9 l, u.oneCell' = true := by
 intro u hu
 obtain ⟨b, _, rfl⟩ := List.mem_map.1 hu
 rfl
theorem Y4 (h : i6) : (L8 h).all (·.oneCell') = true := List.all_eq_true.2 (r9 h.1)
def e7 : i6 := ⟨List.replicate 32 0, by simp⟩
def m9 (l : List i6) : List Value := l.flatMap L8
theorem iZ : m9 [] = [] := rfl
theorem N6 (h : i6) (l : List i6) : m9 (h :: l) = L8 h ++ m9 l := rfl
theorem M3 (l m : List i6) : m9 (l ++ m) = m9 l ++ m9 m := by simp [m9]
theorem m7 : ∀ l : List i6, (m9 l).length = l.length * 32
 | [] => rfl
 | h :: l => by rw [N6, List.length_append, l6, m7 l, List.length_cons]; omega
theorem lK (l : List i6) : ∀ u ∈ m9 l, u.oneCell' = true := by
 intro u hu
 obtain ⟨h, _, hu⟩ := List.mem_flatMap.1 hu
 exact r9 h.1 u hu
theorem GP : ∀ (l : List i6) (i : Nat) (h : i6), l[i]? = some h → ∀ j v, (L8 h)[j]? = some v → (m9 l)[i * 32 + j]? = some v
 | [], i, h, hi, _, _, _ => by simp at hi
 | a :: l, 0, h, hi, j, v, hv => by
  have : a = h := by simpa using hi
  subst this
  have hj : j < (L8 a).length := (List.getElem?_eq_some_iff.1 hv).1
  rw [Nat.zero_mul, Nat.zero_add, N6, List.getElem?_append_left hj]
  exact hv
 | a :: l, i + 1, h, hi, j, v, hv => by
  have hi' : l[i]? = some h := by simpa using hi
  have := GP l i h hi' j v hv
  rw [N6, List.getElem?_append_right (by rw [l6]; omega), l6]
  rw [show (i + 1) * 32 + j - 32 = i * 32 + j by omega]
  exact this
theorem oP : ∀ (l : List i6) (k : Nat), (m9 l).drop (k * 32) = m9 (l.drop k)
 | l, 0 => by simp
 | [], k + 1 => by simp [m9]
 | a :: l, k + 1 => by
  rw [List.drop_succ_cons, ← oP l k, N6, List.drop_append, List.drop_eq_nil_of_le (by rw [l6]; omega), List.nil_append, l6]
  congr 1; omega
theorem oQ : ∀ (l : List i6) (k : Nat), (m9 l).take (k * 32) = m9 (l.take k)
 | l, 0 => by simp [m9]
 | [], k + 1 => by simp [m9]
 | a :: l, k + 1 => by
  rw [List.take_succ_cons, N6, N6, ← oQ l k, List.take_append, l6, List.take_of_length_le (by rw [l6]; omega)]
  congr 2; omega
end Go.E
namespace Go.E
set_option linter.unusedSectionVars false
variable {C : Ctx} {Q : EQ} {env : Env} {L : List Assn}
variable {κ α : Type} [DecidableEq κ] {K E e : TypeId} {enc : κ → Value} {encv : α → Value}
variable {dst : Option Tmp} {ty : TypeId} {po : String} {af : Array Edge} {gj : Option (Nat × Bool)} {x y z : Operand} {v : Value} {T : TypeId} {b it : Nat} {ms : List (κ × α)} {k : κ} {a : α} {K' : Value → List Assn → Prop} {done : List κ}
theorem St.conv {w0 w : World} {M : List Nat} {L1 L2 N N' : List Assn} (h : St w0 M (L1 ++ N ++ L2) w) (hf : A8 N' = A8 N) (hok : ∀ A ∈ N', A.ok w) : St w0 M (L1 ++ N' ++ L2) w := by
 have hf' : A8 (L1 ++ N' ++ L2) = A8 (L1 ++ N ++ L2) := by simp only [G2, hf]
 refine ⟨h.os, h.tape, h.output, h.size, h.block, ⟨fun A hA => ?_, ?_, ?_⟩, ?_⟩
 ·rcases List.mem_append.1 hA with hA | hA
  ·rcases List.mem_append.1 hA with hA | hA
   ·exact h.sat.ok A (List.mem_append.2 (.inl (List.mem_append.2 (.inl hA))))
   ·exact hok A hA
  ·exact h.sat.ok A (List.mem_append.2 (.inr hA))
 ·rw [hf']; exact h.sat.lt
 ·rw [hf']; exact h.sat.nodup
 ·rw [hf']; exact h.own
structure MapInv (enc : κ → Value) (encv : α → Value) (ms : List (κ × α)) (done : List κ) (es : Array MapEntry) (ck : Nat) (ds : List MapEntry) : Prop where
 ents : entsOf enc encv ms es.toList
 pw : es.toList.Pairwise (fun x y => x.born < y.born)
 lt : ∀ e ∈ es.toList, e.born < ck
 nodup : (o9 ms).Nodup
 seen : ∀ e ∈ es.toList, e.born ∈ ds.map (·.born) ↔ ∃ k ∈ done, e.key = enc k
 last : ∀ d k, done = d ++ [k] → ∀ e ∈ es.toList, e.key = enc k → ∃ ds' e', ds = ds' ++ [e'] ∧ e'.born = e.born
def aJ (b it : Nat) (enc : κ → Value) (encv : α → Value) (ms : List (κ × α)) (done : List κ) : Assn where
 fp := [b, it]
 ok w := ∃ es ck ds, w.heap[b]? = some (.map es ck) ∧ w.heap[it]? = some (.mapIter (some b) ck (ds.map (·.born)).toArray ck) ∧ MapInv enc encv ms done es ck ds
 stable w w' h hk := by
  rw [h b (List.mem_cons_self ..), h it (List.mem_cons_of_mem _ (List.mem_cons_self ..))]; exact hk
theorem vG {ms : List (κ × α)} {es : List MapEntry} (h : entsOf enc encv ms es) {e : MapEntry} (he : e ∈ es) : ∃ p ∈ ms, e.key = enc p.1 ∧ e.val = encv p.2 := by
 have : (e.key, e.val) ∈ es.map (fun e => (e.key, e.val)) := List.mem_map_of_mem he
 unfold entsOf at h
 rw [h] at this
 obtain ⟨p, hp, he⟩ := List.mem_map.1 this
 injection he with h1 h2
 exact ⟨p, hp, h1.symm, h2.symm⟩
theorem lI {ms : List (κ × α)} {es : List MapEntry} (h : entsOf enc encv ms es) {p : κ × α} (hp : p ∈ ms) : ∃ e ∈ es, e.key = enc p.1 ∧ e.val = encv p.2 := by
 have : (enc p.1, encv p.2) ∈ ms.map (fun p => (enc p.1, encv p.2)) := List.mem_map_of_mem (f := fun p : κ × α => (enc p.1, encv p.2)) hp
 unfold entsOf at h
 rw [← h] at this
 obtain ⟨e, he, h⟩ := List.mem_map.1 this
 injection h with h1 h2
 exact ⟨e, he, h1, h2⟩
theorem qE (inj : ∀ a b, enc a = enc b → a = b) : ∀ {ms : List (κ × α)} {es : List MapEntry}, entsOf enc encv ms es → (o9 ms).Nodup → ∀ e ∈ es, ∀ e' ∈ es, e.key = e'.key → e = e'
 | [], es, h, _, e, he, _, _, _ => by
  unfold entsOf at h; simp at h; subst h; cases he
 | p :: ms, es, h, hn, e, he, e', he', hk => by
  obtain ⟨e0, es', rfl, h1, h2, h3⟩ := h.cons
  simp only [o9, List.map_cons, List.nodup_cons] at hn
  have hno : ∀ e ∈ es', e.key ≠ e0.key := fun e he hk => by
   obtain ⟨q, hq, hq1, _⟩ := vG h3 he
   rw [h1, hq1] at hk
   exact hn.1 (inj _ _ hk ▸ List.mem_map_of_mem hq)
  rcases List.mem_cons.1 he with h4 | h4 <;> rcases List.mem_cons.1 he' with h5 | h5
  ·exact h4.trans h5.symm
  ·subst h4; exact absurd hk.symm (hno _ h5)
  ·subst h5; exact absurd hk (hno _ h4)
  ·exact qE inj h3 hn.2 e h4 e' h5 hk
theorem yT : ∀ {l : List MapEntry}, l.Pairwise (fun x y => x.born < y.born) → ∀ e ∈ l, ∀ e' ∈ l, e.born = e'.born → e = e'
 | [], _, e, he, _, _, _ => by cases he
 | a :: l, hp, e, he, e', he', hb => by
  rw [List.pairwise_cons] at hp
  rcases List.mem_cons.1 he with h4 | h4 <;> rcases List.mem_cons.1 he' with h5 | h5
  ·exact h4.trans h5.symm
  ·subst h4; have := hp.1 _ h5; omega
  ·subst h5; have := hp.1 _ h4; omega
  ·exact yT hp.2 e h4 e' h5 hb
theorem MapInv.step (inj : ∀ a b, enc a = enc b → a = b) {es : Array MapEntry} {ck : Nat} {ds : List MapEntry} (h : MapInv enc encv ms done es ck ds) {e : MapEntry} {k : κ} (he : e ∈ es.toList) (hk : e.key = enc k) : MapInv enc encv ms (done ++ [k]) es ck (ds ++ [e]) where
 ents := h.ents
 pw := h.pw
 lt := h.lt
 nodup := h.nodup
 seen e' he' := by
  rw [List.map_append, List.mem_append, h.seen e' he']
  constructor
  ·rintro (⟨k', hk', h2⟩ | h2)
   ·exact ⟨k', List.mem_append.2 (.inl hk'), h2⟩
   ·simp at h2
    have := yT h.pw _ he' _ he h2
    subst this
    exact ⟨k, by simp, hk⟩
  ·rintro ⟨k', hk', h2⟩
   rcases List.mem_append.1 hk' with hk' | hk'
   ·exact .inl ⟨k', hk', h2⟩
   ·simp at hk'; subst hk'
    have := qE inj h.ents h.nodup _ he' _ he (h2.trans hk.symm)
    subst this
    exact .inr (by simp)
 last d k' hd e' he' hk' := by
  have := List.append_inj' hd rfl
  have hkk : k = k' := by simpa using this.2
  subst hkk
  have := qE inj h.ents h.nodup _ he' _ he (hk'.trans hk.symm)
  subst this
  exact ⟨ds, e', rfl, rfl⟩
theorem zc9 {L1 L2 : List Assn} (ht : C.P.underlying T = some (.map K E)) (hx : env.ev x = .map (some b))
  (h : ∀ it, K' (.pointer (some ⟨it, 0, none⟩)) (L1 ++ aJ b it enc encv ms [] :: L2)) : OpV C ⟨dst, .range T x, ty, po, af, gj⟩ env (L1 ++ u6 b enc encv ms :: L2) K' := fun w hw => by
 obtain ⟨es, ck, hb, he, hp, hc, hn⟩ := hw.ok (A := u6 b enc encv ms) (List.mem_append.2 (.inr (List.mem_cons_self ..)))
 have hst : St C.w0 C.M (L1 ++ IsObj b (.map es ck) :: L2) w := hw.upd (A' := IsObj b (.map es ck)) rfl rfl rfl rfl rfl (fun _ _ => rfl) hb
 have := yJ (C := C) (env := env) (L := L1 ++ IsObj b (.map es ck) :: L2) (K := fun v L' => ∃ it, v = .pointer (some ⟨it, 0, none⟩) ∧ L' = K4 it b ck [] :: (L1 ++ IsObj b (.map es ck) :: L2)) (dst := dst) (ty := ty) (po := po) (af := af) (gj := gj) ht hx (BA (List.mem_append.2 (.inr (List.mem_cons_self ..)))) (fun it => ⟨it, rfl, rfl⟩)
 refine (this w hst).mono ?_
 rintro v w' ⟨L', hs, it, rfl, rfl⟩
 refine ⟨_, ?_, h it⟩
 have h1 : St C.w0 C.M (L1 ++ [IsObj b (.map es ck), K4 it b ck []] ++ L2) w' := hs.perm (by
  rw [List.append_assoc]
  refine List.Perm.trans (List.perm_middle (a := K4 it b ck []) (l₁ := L1) (l₂ := IsObj b (.map es ck) :: L2)).symm ?_
  exact List.Perm.append_left _ (List.Perm.swap ..))
 have h2 := h1.conv (N' := [aJ b it enc encv ms []]) (by simp [A8, IsObj.fp, K4, aJ]) (by
  intro A hA
  simp only [List.mem_singleton] at hA
  subst hA
  exact ⟨es, ck, [], h1.ok (A := IsObj b (.map es ck)) (by simp), h1.ok (A := K4 it b ck []) (by simp), he, hp, hc, hn, by simp, by simp⟩)
 simpa using h2
theorem zes {L1 L2 : List Assn} (inj : ∀ a b, enc a = enc b → a = b) (hx : env.ev x = .pointer (some ⟨it, 0, none⟩))
  (h0 : (∀ p ∈ ms, p.1 ∈ done) → K' (.tuple #[.bool false]) (L1 ++ aJ b it enc encv ms done :: L2))
  (h1 : ∀ k a, (k, a) ∈ ms → k ∉ done → K' (.tuple #[.bool true, enc k, encv a]) (L1 ++ aJ b it enc encv ms (done ++ [k]) :: L2)) :
  OpV C ⟨dst, .next x false, ty, po, af, gj⟩ env (L1 ++ aJ b it enc encv ms done :: L2) K' := fun w hw => by
 obtain ⟨es, ck, ds, hb, hi, hv⟩ := hw.ok (A := aJ b it enc encv ms done) (List.mem_append.2 (.inr (List.mem_cons_self ..)))
 have hst0 : St C.w0 C.M (L1 ++ [aJ b it enc encv ms done] ++ L2) w := by simpa using hw
 have hst := hst0.conv (N' := [IsObj b (.map es ck), K4 it b ck ds]) (by simp [A8, IsObj.fp, K4, aJ]) (by
  intro A hA
  simp only [List.mem_cons, List.not_mem_nil, or_false] at hA
  rcases hA with rfl | rfl
  ·exact hb
  ·exact hi)
 have hst2 : St C.w0 C.M ((L1 ++ [IsObj b (.map es ck)]) ++ K4 it b ck ds :: L2) w := by simpa using hst
 have back : ∀ {w' : World} {ds' : List MapEntry} {done' : List κ}, St C.w0 C.M ((L1 ++ [IsObj b (.map es ck)]) ++ K4 it b ck ds' :: L2) w' → MapInv enc encv ms done' es ck ds' → St C.w0 C.M (L1 ++ aJ b it enc encv ms done' :: L2) w' := by
  intro w' ds' done' h hv'
  have h1 : St C.w0 C.M (L1 ++ [IsObj b (.map es ck), K4 it b ck ds'] ++ L2) w' := by simpa using h
  have h2 := h1.conv (N' := [aJ b it enc encv ms done']) (by simp [A8, IsObj.fp, K4, aJ]) (by
   intro A hA
   simp only [List.mem_singleton] at hA
   subst hA
   exact ⟨es, ck, ds', h1.ok (A := IsObj b (.map es ck)) (by simp), h1.ok (A := K4 it b ck ds') (by simp), hv'⟩)
  simpa using h2
 have := yI (C := C) (env := env) (L1 := L1 ++ [IsObj b (.map es ck)]) (L2 := L2) (i := it) (m := b) (ck := ck) (es := es) (ds := ds) (dst := dst) (ty := ty) (po := po) (af := af) (gj := gj)
  (K := fun v L' => ((∀ p ∈ ms, p.1 ∈ done) ∧ v = .tuple #[.bool false] ∧ L' = (L1 ++ [IsObj b (.map es ck)]) ++ K4 it b ck ds :: L2) ∨
   (∃ e k a, e ∈ es.toList ∧ e.key = enc k ∧ (k, a) ∈ ms ∧ k ∉ done ∧ v = .tuple #[.bool true, enc k, encv a] ∧ L' = (L1 ++ [IsObj b (.map es ck)]) ++ K4 it b ck (ds ++ [e]) :: L2)) hx (BA (by simp)) hv.lt
  (fun hall => .inl ⟨fun p hp => by
   obtain ⟨e, he, hk, _⟩ := lI hv.ents hp
   obtain ⟨k, hk', h2⟩ := (hv.seen e he).1 (hall e he)
   rw [hk] at h2
   exact inj _ _ h2 ▸ hk', rfl, rfl⟩)
  (fun e he hno => by
   obtain ⟨p, hp, h1, h2⟩ := vG hv.ents he
   exact .inr ⟨e, p.1, p.2, he, h1, hp, fun hd => hno ((hv.seen e he).2 ⟨p.1, hd, h1⟩), by rw [h1, h2], rfl⟩)
 refine (this w hst2).mono ?_
 rintro v w' ⟨L', hs, ⟨hall, rfl, rfl⟩ | ⟨e, k, a, he, hk, hm, hd, rfl, rfl⟩⟩
 ·exact ⟨_, back hs hv, h0 hall⟩
 ·exact ⟨_, back hs (hv.step inj he hk), h1 k a hm hd⟩
theorem zev {done : List κ} (inj : ∀ a b, enc a = enc b → a = b) (hx : env.ev x = .pointer (some ⟨it, 0, none⟩)) (h : Has C L (aJ b it enc encv ms (done ++ [k]))) (hm : (k, a) ∈ ms) :
  Qt C L ⟨dst, .entry x, ty, po, af, gj⟩ env (.tuple #[enc k, encv a]) := fun w hw => by
 obtain ⟨es, ck, ds, hb, hi, hv⟩ := h w hw
 obtain ⟨e, he, hk, ha⟩ := lI hv.ents hm
 obtain ⟨ds', e', rfl, hbn⟩ := hv.last _ _ rfl e he hk
 have hgi := dL (P := C.P) (by intro c t f e; cases e) hi
 have hback : (((ds' ++ [e']).map (·.born)).toArray).back? = some e.born := by simp [hbn]
 have hfind : es.find? (fun x => x.born == e.born) = some e := by
  rw [← Array.find?_toList]
  exact qF hv.pw he
 simp only [execOp, hx, Instr.entry, Sem.run_bind, hgi, Result.andThen_ok, hback, I6 hb, bne_self_eq_false, Bool.false_eq_true, if_false, Sem.run_pure, hfind, hk, ha]
theorem zgq {L1 L2 : List Assn} {tys : Array TypeId} (htys : tys[0]? = some T) (ht : C.P.underlying T = some (.map K E)) (law : KeyLaw C.P K enc) (hx : env.ev x = .map (some b)) (hy : env.ev y = enc k)
  (h : K' (.tuple #[]) (L1 ++ aJ b it enc encv (Y9 k ms) done :: L2)) : OpV C ⟨dst, .call { callee := .builtin .delete, args := #[x, y], argTypes := tys }, ty, po, af, gj⟩ env (L1 ++ aJ b it enc encv ms done :: L2) K' := fun w hw => by
 obtain ⟨es, ck, ds, hb, hi, hv⟩ := hw.ok (A := aJ b it enc encv ms done) (List.mem_append.2 (.inr (List.mem_cons_self ..)))
 have hst0 : St C.w0 C.M (L1 ++ [aJ b it enc encv ms done] ++ L2) w := by simpa using hw
 have hst := hst0.conv (N' := [IsObj b (.map es ck), K4 it b ck ds]) (by simp [A8, IsObj.fp, K4, aJ]) (by
  intro A hA
  simp only [List.mem_cons, List.not_mem_nil, or_false] at hA
  rcases hA with rfl | rfl
  ·exact hb
  ·exact hi)
 have hst2 : St C.w0 C.M (L1 ++ IsObj b (.map es ck) :: (K4 it b ck ds :: L2)) w := by simpa using hst
 have hlt := jC hb
 have he := hv.ents
 have hrun : ∃ es', ((execOp env.ev ⟨dst, .call { callee := .builtin .delete, args := #[x, y], argTypes := tys }, ty, po, af, gj⟩).run C.P w = .ok (.value (.tuple #[])) { w with heap := w.heap.setIfInBounds b (.map es' ck) }) ∧
   entsOf enc encv (Y9 k ms) es'.toList ∧ es'.toList.Sublist es.toList := by
  cases hf : S5 k ms 0 with
  | none =>
   refine ⟨es, ?_, ?_, List.Sublist.refl _⟩
   ·simp [execOp, resolve, invoke, builtin, hx, hy, Builtin.delete_, htys, run_underlying ht, I6 hb, law.check, bC law k w ms _ he, hf, V2 hb]
   ·have hu : Y9 k ms = ms := by rw [← vE]; unfold KV; rw [hf]
    rw [hu]; exact he
  | some p =>
   obtain ⟨i, a0⟩ := p
   refine ⟨es.eraseIdxIfInBounds i, ?_, ?_, ?_⟩
   ·simp [execOp, resolve, invoke, builtin, hx, hy, Builtin.delete_, htys, run_underlying ht, I6 hb, law.check, bC law k w ms _ he, hf, V2 hb]
   ·have hu : Y9 k ms = ms.eraseIdx i := by rw [← vE]; unfold KV; rw [hf]
    rw [hu]
    unfold entsOf at he ⊢
    rw [Array.toList_eraseIdxIfInBounds, bV, he, bV]
   ·rw [Array.toList_eraseIdxIfInBounds]; exact List.eraseIdx_sublist ..
 obtain ⟨es', hrun, h1, h2⟩ := hrun
 rw [hrun]
 refine ⟨_, ?_, h⟩
 have hs := hst2.setObj (A := IsObj b (.map es ck)) (A' := IsObj b (.map es' ck)) (o := .map es' ck) rfl rfl hlt (fun w' hw' => hw')
 have hs2 : St C.w0 C.M (L1 ++ [IsObj b (.map es' ck), K4 it b ck ds] ++ L2) { w with heap := w.heap.setIfInBounds b (.map es' ck) } := by simpa using hs
 have h3 := hs2.conv (N' := [aJ b it enc encv (Y9 k ms) done]) (by simp [A8, IsObj.fp, K4, aJ]) (by
  intro A hA
  simp only [List.mem_singleton] at hA
  subst hA
  exact ⟨es', ck, ds, hs2.ok (A := IsObj b (.map es' ck)) (by simp), hs2.ok (A := K4 it b ck ds) (by simp), h1, hv.pw.sublist h2, fun e he => hv.lt e (h2.subset he), iD k hv.nodup, fun e he => hv.seen e (h2.subset he), fun d k' hd e he hk => hv.last d k' hd e (h2.subset he) hk⟩)
 simpa using h3
theorem St.endI {w0 w : World} {M : List Nat} {L1 L2 : List Assn} (h : St w0 M (L1 ++ aJ b it enc encv ms done :: L2) w) : St w0 M (L1 ++ u6 b enc encv ms :: L2) w := by
 obtain ⟨es, ck, ds, hb, hi, hv⟩ := h.ok (A := aJ b it enc encv ms done) (List.mem_append.2 (.inr (List.mem_cons_self ..)))
 have hst0 : St w0 M (L1 ++ [aJ b it enc encv ms done] ++ L2) w := by simpa using h
 have hst := hst0.conv (N' := [u6 b enc encv ms, K4 it b ck ds]) (by simp [A8, IsObj.fp, K4, aJ, u6]) (by
  intro A hA
  simp only [List.mem_cons, List.not_mem_nil, or_false] at hA
  rcases hA with rfl | rfl
  ·exact ⟨es, ck, hb, hv.ents, hv.pw, hv.lt, hv.nodup⟩
  ·exact hi)
 refine hst.sub ⟨[K4 it b ck ds], ?_⟩
 simp only [List.append_assoc, List.cons_append, List.nil_append]
 refine List.Perm.append_left _ (List.Perm.cons _ ?_)
 exact List.perm_append_comm (l₁ := [K4 it b ck ds]) (l₂ := L2)
theorem zc8 {R : List Assn} (ht : C.P.underlying T = some (.map K E)) (hx : env.ev x = .map (some b))
  (h : ∀ it, K' (.pointer (some ⟨it, 0, none⟩)) (aJ b it enc encv ms [] :: R)) : OpV C ⟨dst, .range T x, ty, po, af, gj⟩ env (u6 b enc encv ms :: R) K' := zc9 (L1 := []) ht hx h
theorem zc6 {R : List Assn} (inj : ∀ a b, enc a = enc b → a = b) (hx : env.ev x = .pointer (some ⟨it, 0, none⟩))
  (h0 : (∀ p ∈ ms, p.1 ∈ done) → K' (.tuple #[.bool false]) (aJ b it enc encv ms done :: R))
  (h1 : ∀ k a, (k, a) ∈ ms → k ∉ done → K' (.tuple #[.bool true, enc k, encv a]) (aJ b it enc encv ms (done ++ [k]) :: R)) :
  OpV C ⟨dst, .next x false, ty, po, af, gj⟩ env (aJ b it enc encv ms done :: R) K' := zes (L1 := []) inj hx h0 h1
theorem zer {B0 : Assn} {R : List Assn} {tys : Array TypeId} (htys : tys[0]? = some T) (ht : C.P.underlying T = some (.map K E)) (law : KeyLaw C.P K enc) (hx : env.ev x = .map (some b)) (hy : env.ev y = enc k)
  (h : K' (.tuple #[]) (B0 :: aJ b it enc encv (Y9 k ms) done :: R)) : OpV C ⟨dst, .call { callee := .builtin .delete, args := #[x, y], argTypes := tys }, ty, po, af, gj⟩ env (B0 :: aJ b it enc encv ms done :: R) K' := zgq (L1 := [B0]) htys ht law hx hy h
end Go.E
namespace Go.E
set_option linter.unusedSectionVars false
variable {C : Ctx} {Q : EQ} {env : Env} {L : List Assn} {α : Type}
def Env.mark (env : Env) (D : Nat) : Env := ⟨env.f, D :: env.ds⟩
def JX (env : Env) (ps : List Nat) (vs : List Value) : Env := ⟨((ps.zip vs).foldl (fun (e : Env) (q : Nat × Value) => e.put q.1 q.2) env).f, []⟩
def LN (P : Program) (gf : FuncId) (cap : Array Value) (enc : α → List Value) (S Sp : List α → Prop) (w : World) (L : List Assn) : Prop :=
 ∀ (l : Nat) (J : Bool → List α → List Assn → Prop), J true [] L →
  (∀ pre x w' L', J true pre L' → St w (A8 L) L' w' → YieldAt Fence.wide 0 P l (enc x).toArray w' fun e w'' => ∃ L'', St w' (A8 L') L'' w'' ∧
   ((e = .returned (.bool true) ∧ J true (pre ++ [x]) L'') ∨ (e = .returned (.bool false) ∧ J false (pre ++ [x]) L''))) →
  Calls P gf (#[.func (.yield l) #[] #[]] ++ cap) w (D0 w (A8 L) fun v L' => (∃ xs, S xs ∧ J true xs L') ∨ (∃ pre, Sp pre ∧ J false pre L'))
@[reducible] def zjA (Rb : Assn) (D : Nat) (J : List α → List Assn → Prop) (Jx : Code → List α → List Assn → Prop) (xs : List α) : EQ := fun x e L1 => match x with
 | .normal => ∃ L2, Sub (Rb :: eQ D :: L2) L1 ∧ J xs L2
 | .ret => ∃ L2, Sub (Rb :: eQ D :: L2) L1 ∧ Jx .ret xs L2
 | .exit id => ∃ L2, Sub (Rb :: eQ D :: L2) L1 ∧ Jx (.exit id) xs L2
 | _ => False
@[reducible] def GF (C' : Ctx) (body : Code) (Rr Rb : Assn) (D : Nat) (J : List α → List Assn → Prop) (Jx : Code → List α → List Assn → Prop) (xs : List α) : EQ := fun x e L1 => match x with
 | .normal => ∃ L2, Sub (Rr :: L2) L1 ∧ TC C' body (zjA Rb D J Jx xs) e (Rb :: L2)
 | _ => False
theorem Fits.params {n : Nat} : ∀ (ps : List Nat) (vs : List Value) (tmps : Array Value) (env : Env), tmps.size = n → (∀ t, tmps.getD t undef = env t) → ps.all (fun p => Nat.blt p n) = true →
  ((ps.zip vs).foldl (fun (t : Array Value) (q : Nat × Value) => t.setIfInBounds q.1 q.2) tmps).size = n ∧
  ∀ t, ((ps.zip vs).foldl (fun (t : Array Value) (q : Nat × Value) => t.setIfInBounds q.1 q.2) tmps).getD t undef = ((ps.zip vs).foldl (fun (e : Env) (q : Nat × Value) => e.put q.1 q.2) env) t
 | [], vs, tmps, env, h1, h2, _ => ⟨by simpa using h1, by simpa using h2⟩
 | p :: ps, [], tmps, env, h1, h2, _ => ⟨by simpa using h1, by simpa using h2⟩
 | p :: ps, v :: vs, tmps, env, h1, h2, h3 => by
  simp only [List.all_cons, Bool.and_eq_true] at h3
  have hp : p < n := by simpa using h3.1
  simp only [List.zip_cons_cons, List.foldl_cons]
  refine Fits.params ps vs (tmps.setIfInBounds p v) (env.put p v) (by simp [h1]) (fun t => ?_) h3.2
  by_cases ht : t = p
  ·subst ht; rw [V8]; simp [h1, hp]
  ·rw [L7 _ _ ht, ← h2 t]; simp [Array.getElem?_setIfInBounds_ne (Ne.symm ht)]
theorem St.putObj {w0 w : World} {M : List Nat} {L : List Assn} {b : Nat} {o : Obj} (h : St w0 M (IsObj b o :: L) w) (o' : Obj) : St w0 M (IsObj b o' :: L) (w.putObj b o') := by
 have hb : w.heap[b]? = some o := h.ok (A := IsObj b o) (List.mem_cons_self ..)
 have hlt : b < w.heap.size := (Array.getElem?_eq_some_iff.1 hb).1
 have h1 : St w0 M ([] ++ IsObj b o :: L) w := h
 exact h1.upd (w' := w.putObj b o') (A' := IsObj b o') rfl rfl rfl rfl (by simp [World.putObj]) (fun k hk => World.putObj_heap_other (fun e => hk (by rw [e, IsObj.fp]; exact List.mem_cons_self ..))) (World.putObj_heap_same hlt)
theorem za6 {g : Operand} {ps : Array Tmp} {assign body : Code} {gf : FuncId} {cap : Array Value} (enc : α → List Value) (S Sp : List α → Prop) (J : List α → List Assn → Prop) (Jx : Code → List α → List Assn → Prop) {L0 R : List Assn}
  (hr : C.r = none) (hg : env.ev g = .func (.func gf) #[] cap) (he : p8 C.P gf) (hps : ps.toList.all (fun p => Nat.blt p C.n) = true) (hsz : ∀ x, (enc x).length = ps.size) (hL : L.Perm (L0 ++ R)) (h0 : J [] L0)
  (hgen : ∀ w L', St C.w0 C.M (L' ++ R) w → LN C.P gf cap enc S Sp w L')
  (hround : ∀ (w' : World) (l D : Nat) (Rr Rb : Assn) (pre : List α) (x : α) (L' : List Assn), J pre L' → St C.w0 C.M ((Rr :: eQ D :: L') ++ R) w' →
   TC ⟨C.P, C.n, w', A8 (Rr :: eQ D :: L'), some l⟩ assign (GF ⟨C.P, C.n, w', A8 (Rr :: eQ D :: L'), some l⟩ body Rr Rb D J Jx (pre ++ [x])) (JX env ps.toList (enc x)) (Rr :: eQ D :: L'))
  (hdone : ∀ D xs L', S xs → J xs L' → Q .normal (env.mark D) (eQ D :: (L' ++ R)))
  (hstop : ∀ D c pre L', Sp pre → Jx c pre L' → TC C c Q (env.mark D) (eQ D :: (L' ++ R))) : TC C (.rangeFunc g ps assign body) Q env L := by
 intro a w ha hw
 refine wpIn_rangeFunc ?_
 intro fn hfn
 obtain ⟨D, hD⟩ : ∃ D, D = w.heap.size := ⟨_, rfl⟩
 obtain ⟨rec, hrec⟩ : ∃ rec : LoopState → Option Code → Loop, rec = fun st pe => { state := st, pending := pe, fn, tmps := a.tmps, params := ps, assign, body, defers := w.heap.size } := ⟨_, rfl⟩
 have hpend : ∀ st pe, (rec st pe).pending = pe := fun st pe => by rw [hrec]
 have hstate : ∀ st pe, (rec st pe).state = st := fun st pe => by rw [hrec]
 have hpar : ∀ st pe, (rec st pe).params = ps := fun st pe => by rw [hrec]
 have hwith : ∀ st pe st' pe', ({ rec st pe with state := st', pending := pe' } : Loop) = rec st' pe' := fun st pe st' pe' => by rw [hrec]
 obtain ⟨W1, hW1⟩ : ∃ W1, (w.alloc (.deferred (some []))).alloc (.loop (rec .ready none)) = W1 := ⟨_, rfl⟩
 have hw0 : St C.w0 C.M (L0 ++ R) w := hw.perm hL
 have hst1 : St C.w0 C.M (IsObj (D + 1) (.loop (rec .ready none)) :: eQ D :: (L0 ++ R)) W1 := by
  have h := (hw0.alloc (.deferred (some []))).alloc (.loop (rec .ready none))
  rw [World.size_alloc, hW1, ← hD] at h
  exact h
 have hfr : (FW C.r).round = none := hr
 rw [hfr]
 have hev : a.eval g = .func (.func gf) #[] cap := by rw [ha.ev]; exact hg
 refine ⟨w.heap.size + 1, [sF w.heap.size], W1, { target := .fn (.func gf) cap, args := #[.func (.yield (w.heap.size + 1)) #[] #[]] }, W1, gf,
  #[.func (.yield (w.heap.size + 1)) #[] #[]] ++ cap, W1, ?_, ?_, fun _ _ => trivial, ?_, (fun h => Bool.noConfusion h), ?_⟩
 ·rw [← hW1, hrec]; exact run_enterLoop_outer _ _ _ _ _
 ·simp only [resolve, hev]
  simp [go_sem]
 ·simp [invoke, go_sem, jN he]
 ·refine mU ?_
  have hsat : St C.w0 C.M ((IsObj (D + 1) (.loop (rec .ready none)) :: eQ D :: L0) ++ R) W1 := hst1
  have hrun := hgen W1 _ hsat (D + 1)
   (fun b pre L'' => if b then ∃ L', L'' = IsObj (D + 1) (.loop (rec .ready none)) :: eQ D :: L' ∧ J pre L' else ∃ c L', L'' = IsObj (D + 1) (.loop (rec .done (some c))) :: eQ D :: L' ∧ Jx c pre L')
   (by simp only [if_true]; exact ⟨L0, rfl, h0⟩) ?_
  ·rw [hD] at hrun
   refine hrun.mono ?_
   rintro e w3 ⟨v, L'', rfl, hs, hcase⟩
   rw [← hD] at hs hcase ⊢
   have hs2 := hsat.frame hs
   rcases hcase with ⟨xs, hS, hJ⟩ | ⟨pre, hSp, hJ⟩
   ·simp only [if_true] at hJ
    obtain ⟨L', rfl, hJ⟩ := hJ
    have hl : w3.heap[D + 1]? = some (.loop (rec .ready none)) := hs2.ok (A := IsObj (D + 1) _) (List.mem_cons_self ..)
    have hrun2 := run_endLoop (P := C.P) hl (by rw [hstate]; simp)
    refine ⟨none, _, hrun2.trans (by rw [hpend]), ?_⟩
    exact ⟨env.mark D, _, ⟨by show sF D :: a.defers = _; rw [ha.1]; rfl, ha.2.1, ha.2.2⟩, (St.putObj (L := eQ D :: (L' ++ R)) hs2 _).sub (Sub.drop _ (Sub.refl _)), hdone D xs L' hS hJ⟩
   ·simp only [Bool.false_eq_true, if_false] at hJ
    obtain ⟨c, L', rfl, hJ⟩ := hJ
    have hl : w3.heap[D + 1]? = some (.loop (rec .done (some c))) := hs2.ok (A := IsObj (D + 1) _) (List.mem_cons_self ..)
    have hrun2 := run_endLoop (P := C.P) hl (by rw [hstate]; simp)
    refine ⟨some c, _, hrun2.trans (by rw [hpend]), ?_⟩
    exact hstop D c pre L' hSp hJ _ _ ⟨by show sF D :: a.defers = _; rw [ha.1]; rfl, ha.2.1, ha.2.2⟩ ((St.putObj (L := eQ D :: (L' ++ R)) hs2 _).sub (Sub.drop _ (Sub.refl _)))
  ·rintro pre x w' L'' hJ hst
   simp only [if_true] at hJ
   obtain ⟨L', rfl, hJ⟩ := hJ
   have hst' := hsat.frame hst
   have hl : w'.heap[D + 1]? = some (.loop (rec .ready none)) := hst'.ok (A := IsObj (D + 1) _) (List.mem_cons_self ..)
   have hy := run_yield (P := C.P) (args := (enc x).toArray) hl (by rw [hrec]; simp [hsz])
   have hbody := hround w' (D + 1) D (IsObj (D + 1) (.loop (rec .ready none))) (IsObj (D + 1) (.loop (rec .busy none))) pre x L' hJ hst'
   rw [hrec] at hy
   refine ⟨fn, _, assign, body, hy, roundIn_of_wpIn trivial ?_⟩
   have hfit : Fits C.n { tmps := (ps.zip (enc x).toArray).foldl (fun tmps (t, a) => tmps.setIfInBounds t a) a.tmps, defers := [] } (JX env ps.toList (enc x)) := by
    have h := Fits.params ps.toList (enc x) a.tmps env ha.2.1 ha.2.2 hps
    have hz : (ps.zip (enc x).toArray).foldl (fun tmps (t, a) => tmps.setIfInBounds t a) a.tmps = (ps.toList.zip (enc x)).foldl (fun (t : Array Value) (q : Nat × Value) => t.setIfInBounds q.1 q.2) a.tmps := by
     rw [← Array.foldl_toList, Array.toList_zip]
    rw [hz]
    exact ⟨rfl, h.1, h.2⟩
   refine wpIn_mono (hbody _ w' hfit (eJ hst'.sat.left)) ?_
   rintro e1 a1 w1 ⟨e, L1, hf1, hs1, hq1⟩
   cases e1 with
   | normal =>
    obtain ⟨L2, hsub, hb⟩ := hq1
    have hs2 := hs1.sub hsub
    have hl1 : w1.heap[D + 1]? = some (.loop (rec .ready none)) := hs2.ok (A := IsObj (D + 1) _) (List.mem_cons_self ..)
    refine ⟨_, run_beginRound hl1 (by rw [hrec]), ?_⟩
    have hs3 := St.putObj hs2 (.loop { rec .ready none with state := .busy })
    have hbz : ({ rec .ready none with state := .busy } : Loop) = rec .busy none := by rw [hrec]
    rw [hbz] at hs3 ⊢
    refine wpIn_mono (hb _ _ hf1 hs3) ?_
    have fin : ∀ (jump : Option Code) (w3 : World) (L3 L4 : List Assn), St w' (A8 (IsObj (D + 1) (.loop (rec .ready none)) :: eQ D :: L')) L3 w3 → Sub (IsObj (D + 1) (.loop (rec .busy none)) :: eQ D :: L4) L3 →
      ∃ w4, (Instr.endRound (D + 1) jump).run C.P w3 = .ok (.bool jump.isNone) w4 ∧ St w' (A8 (IsObj (D + 1) (.loop (rec .ready none)) :: eQ D :: L')) (IsObj (D + 1) (.loop (rec (if jump.isNone then .ready else .done) jump)) :: eQ D :: L4) w4 := by
     intro jump w3 L3 L4 h3 hsb
     have h4 := h3.sub hsb
     have hl3 : w3.heap[D + 1]? = some (.loop (rec .busy none)) := h4.ok (A := IsObj (D + 1) _) (List.mem_cons_self ..)
     have hrun := run_endRound (P := C.P) jump (by rw [hrec] at hl3; exact hl3)
     refine ⟨_, hrun, ?_⟩
     have := St.putObj h4 (.loop (rec (if jump.isNone then .ready else .done) jump))
     rw [hrec] at this ⊢
     exact this
    rintro e2 a2 w3 ⟨e', L3, hf3, hs4, hq3⟩
    cases e2 with
    | normal =>
     obtain ⟨L4, hsb, hj⟩ := hq3
     obtain ⟨w4, hr4, hs5⟩ := fin none w3 L3 L4 hs4 hsb
     exact ⟨_, w4, hr4, _, hs5, .inl ⟨rfl, by simp only [if_true]; exact ⟨L4, rfl, hj⟩⟩⟩
    | ret =>
     obtain ⟨L4, hsb, hj⟩ := hq3
     obtain ⟨w4, hr4, hs5⟩ := fin (some .ret) w3 L3 L4 hs4 hsb
     exact ⟨_, w4, hr4, _, hs5, .inr ⟨rfl, by simp only [Bool.false_eq_true, if_false]; exact ⟨.ret, L4, rfl, hj⟩⟩⟩
    | exit id =>
     obtain ⟨L4, hsb, hj⟩ := hq3
     obtain ⟨w4, hr4, hs5⟩ := fin (some (.exit id)) w3 L3 L4 hs4 hsb
     exact ⟨_, w4, hr4, _, hs5, .inr ⟨rfl, by simp only [Bool.false_eq_true, if_false]; exact ⟨.exit id, L4, rfl, hj⟩⟩⟩
    | goto t => exact hq3.elim
    | panic ch => exact hq3.elim
    | outgrown => exact hq3.elim
   | ret => exact hq1.elim
   | exit id => exact hq1.elim
   | goto t => exact hq1.elim
   | panic ch => exact hq1.elim
   | outgrown => exact hq1.elim
end Go.E
namespace Go.E
theorem zeu {C : Ctx} {env : Env} {α : Type} {dst : Option Tmp} {ty : TypeId} {po : String} {af : Array Edge} {gj : Option (Nat × Bool)} {f : Operand} {args : Array Operand} {tys : Array TypeId} {K : Value → List Assn → Prop} {enc : α → List Value} {l : Nat} {J : Bool → List α → List Assn → Prop} {pre : List α} (x : α) {L1 L' : List Assn}
  (hY : ∀ pre x w' L', J true pre L' → St C.w0 C.M L' w' → YieldAt Fence.wide 0 C.P l (enc x).toArray w' fun e w'' => ∃ L'', St w' (A8 L') L'' w'' ∧
   ((e = .returned (.bool true) ∧ J true (pre ++ [x]) L'') ∨ (e = .returned (.bool false) ∧ J false (pre ++ [x]) L'')))
  (hx : env.ev f = .func (.yield l) #[] #[]) (ha : args.toList.map env.ev = enc x) (hJ : J true pre L')
  (ht : ∀ L'', J true (pre ++ [x]) L'' → K (.bool true) (L1 ++ L'')) (hf : ∀ L'', J false (pre ++ [x]) L'' → K (.bool false) (L1 ++ L'')) :
  OpV C ⟨dst, .call { callee := .value f, args := args, argTypes := tys }, ty, po, af, gj⟩ env (L1 ++ L') K := fun w hw => by
 have hp : St C.w0 C.M (L' ++ L1) w := hw.perm List.perm_append_comm
 obtain ⟨fn, tmps, assign, body, hy, hR⟩ := hY pre x w L' hJ hp.left
 have hargs : args.map env.ev = (enc x).toArray := by
  apply Array.ext'
  rw [Array.toList_map, ha]
 have hrun : (execOp env.ev ⟨dst, .call { callee := .value f, args := args, argTypes := tys }, ty, po, af, gj⟩).run C.P w = .ok (.round l fn tmps assign body) w := by
  simp [execOp, resolve, invoke, hx, hargs, Deferred.ofValue, hy]
 rw [hrun]
 show RoundIn (FW C.r) 0 C.P l fn tmps assign body w _
 have hR' : RoundIn (FW C.r) 0 C.P l fn tmps assign body w _ := hR
 refine hR'.mono ?_
 rintro e w'' ⟨L'', hs, ⟨rfl, hj⟩ | ⟨rfl, hj⟩⟩
 ·exact ⟨_, rfl, _, (hp.frame hs).perm List.perm_append_comm, ht L'' hj⟩
 ·exact ⟨_, rfl, _, (hp.frame hs).perm List.perm_append_comm, hf L'' hj⟩
variable {C : Ctx} {Q : EQ} {env : Env}
theorem OwnA.blk {e : TypeId} {sz : Nat} {A : y8} {n c : Nat} {xs : List Value} {w : World} (h : (OwnA e sz A n c xs).ok w) :
  (A = none ∧ n = 0 ∧ c = 0 ∧ xs = []) ∨ ∃ g cs, A = some ⟨g, 0, none⟩ ∧ (Blk g e cs).ok w ∧ cs.take (n * sz) = xs ∧ cs.length = c * sz ∧ n ≤ c ∧ c ≤ maxLen := by
 rcases h.2 with ⟨hv, hn⟩ | ⟨g, cap, cur, hv, hb, hg, hnc, hcm, m9, ht⟩
 ·injection hv with h1 h2 h3
  refine .inl ⟨h1, hn, h3, ?_⟩
  have := h.1
  rw [hn, Nat.zero_mul] at this
  exact List.length_eq_zero_iff.1 this
 ·injection hv with h1 h2 h3
  subst h3
  refine .inr ⟨g, cur.toList, h1, ?_, ht, by simpa using m9, hnc, hcm⟩
  show w.heap[g]? = some (.cells cur.toList.toArray e (0, 0))
  rw [Array.toArray_toList]; exact hg
theorem zbX {e : TypeId} {sz : Nat} {g n c : Nat} {cs : List Value} {w : World} (h : (Blk g e cs).ok w) (hl : cs.length = c * sz) (hn : n ≤ c) (hm : c ≤ maxLen) : (OwnA e sz (some ⟨g, 0, none⟩) n c (cs.take (n * sz))).ok w := by
 refine ⟨?_, .inr ⟨g, c, cs.toArray, rfl, Nat.zero_le _, h, hn, hm, by simpa using hl, by simp⟩⟩
 have : n * sz ≤ c * sz := Nat.mul_le_mul_right _ hn
 rw [List.length_take, hl]; exact Nat.min_eq_left this
theorem mS {e : TypeId} {sz : Nat} {A : y8} {n c : Nat} {xs : List Value} {L : List Assn} {k : Code}
  (h0 : A = none → n = 0 → c = 0 → xs = [] → TC C k Q env (OwnA e sz none 0 0 [] :: L))
  (h1 : ∀ g cs, A = some ⟨g, 0, none⟩ → cs.take (n * sz) = xs → cs.length = c * sz → n ≤ c → c ≤ maxLen → TC C k Q env (Blk g e cs :: L)) : TC C k Q env (OwnA e sz A n c xs :: L) := fun a w ha hw => by
 have hok := hw.ok (A := OwnA e sz A n c xs) (List.mem_cons_self ..)
 rcases OwnA.blk hok with ⟨rfl, rfl, rfl, rfl⟩ | ⟨g, cs, rfl, hb, ht, hl, hn, hm⟩
 ·exact h0 rfl rfl rfl rfl a w ha hw
 ·have hw' : St C.w0 C.M ([] ++ OwnA e sz (some ⟨g, 0, none⟩) n c xs :: L) w := hw
  exact h1 g cs rfl ht hl hn hm a w ha (hw'.upd (A' := Blk g e cs) rfl rfl rfl rfl rfl (fun _ _ => rfl) hb)
theorem St.shutOwn {w0 w : World} {M : List Nat} {e : TypeId} {sz g n c : Nat} {cs : List Value} {L : List Assn} (h : St w0 M (Blk g e cs :: L) w) (hl : cs.length = c * sz) (hn : n ≤ c) (hm : c ≤ maxLen) : St w0 M (OwnA e sz (some ⟨g, 0, none⟩) n c (cs.take (n * sz)) :: L) w := by
 have h' : St w0 M ([] ++ Blk g e cs :: L) w := h
 exact h'.upd (A' := OwnA e sz (some ⟨g, 0, none⟩) n c (cs.take (n * sz))) rfl rfl rfl rfl rfl (fun _ _ => rfl) (zbX (h.ok (A := Blk g e cs) (List.mem_cons_self ..)) hl hn hm)
end Go.E
namespace Go.E
variable {C : Ctx} {Q : EQ} {env : Env} {L : List Assn}
theorem tY (k : IntKind) : H1 k < 2 ^ k.bits := by cases k <;> decide
def IZ : IntKind → Nat
 | .i8 => 7 | .i16 => 15 | .i32 => 31 | .i64 => 63
 | .u8 => 8 | .u16 => 16 | .u32 => 32 | .u64 => 64
theorem vX (k : IntKind) : H1 k + 1 = 2 ^ IZ k := by cases k <;> rfl
theorem bE {k : IntKind} {a : Nat} (h : a ≤ H1 k) : (BitVec.ofInt k.bits (a : Int)).toNat = a := by
 rw [BitVec.ofInt_natCast, BitVec.toNat_ofNat]
 exact Nat.mod_eq_of_lt (Nat.lt_of_le_of_lt h (tY k))
theorem GR {k : IntKind} {a : Nat} (h : a < 2 ^ IZ k) : a ≤ H1 k := by have := vX k; omega
theorem pF {k : IntKind} {a : Nat} (h : a ≤ H1 k) : a < 2 ^ IZ k := by have := vX k; omega
section ops
variable {dst : Option Tmp} {ty : TypeId} {po : String} {af : Array Edge} {gj : Option (Nat × Bool)} {x y z : Operand} {v : Value}
variable {t ty2 : TypeId} {k : IntKind} {a b : Nat} {m n : Int}
theorem nW (hx : env.ev x = .int k (a : Int)) (hy : env.ev y = .int k (b : Int)) (ha : a ≤ H1 k) (hb : b ≤ H1 k) :
  Qt C L ⟨dst, .binOp .xor t x y ty2, ty, po, af, gj⟩ env (.int k ((a ^^^ b : Nat) : Int)) := fun w _ =>
 G4 rfl hx hy (by
  have h : a ^^^ b ≤ H1 k := GR (Nat.xor_lt_two_pow (pF ha) (pF hb))
  simp only [binOp, Op.intBits, BitVec.toNat_xor, bE ha, bE hb, aT h]; simp)
theorem zi6 (hx : env.ev x = .int k (a : Int)) (hy : env.ev y = .int k (b : Int)) (ha : a ≤ H1 k) (hb : b ≤ H1 k) :
  Qt C L ⟨dst, .binOp .or t x y ty2, ty, po, af, gj⟩ env (.int k ((a ||| b : Nat) : Int)) := fun w _ =>
 G4 rfl hx hy (by
  have h : a ||| b ≤ H1 k := GR (Nat.or_lt_two_pow (pF ha) (pF hb))
  simp only [binOp, Op.intBits, BitVec.toNat_or, bE ha, bE hb, aT h]; simp)
theorem fN (hx : env.ev x = .int k (a : Int)) (hy : env.ev y = .int k (b : Int)) (ha : a ≤ H1 k) (hb : b ≤ H1 k) :
  Qt C L ⟨dst, .binOp .and t x y ty2, ty, po, af, gj⟩ env (.int k ((a &&& b : Nat) : Int)) := fun w _ =>
 G4 rfl hx hy (by
  have h : a &&& b ≤ H1 k := Nat.le_trans Nat.and_le_left ha
  simp only [binOp, Op.intBits, BitVec.toNat_and, bE ha, bE hb, aT h]; simp)
theorem qU {o : Oper} {op : BinOp} (ho : o.op = .binOp op t x y ty2) (hop : op = .shl ∨ op = .shr) {ky : IntKind} (hx : env.ev x = .int k m) (hy : env.ev y = .int ky n) {P : Program} {w : World} {r : Value}
  (hr : (Op.shift op k m ky n).run P w = .ok r w) : (execOp env.ev o).run P w = .ok (.value r) w := by
 have he : (eqGuard op t x y (.int k m) (.int ky n)).run P w = .ok () w := by
  rcases hop with rfl | rfl <;> (unfold eqGuard; simp)
 rcases hop with rfl | rfl <;> simp [execOp, ho, hx, hy, he, binOp, hr]
theorem zil {k : IntKind} (ha : a ≤ H1 k) (s : Nat) : a / 2 ^ min s k.bits = a / 2 ^ s := by
 rcases Nat.le_total s k.bits with h | h
 ·rw [Nat.min_eq_left h]
 ·rw [Nat.min_eq_right h, Nat.div_eq_of_lt (Nat.lt_of_le_of_lt ha (tY k)), Nat.div_eq_of_lt (Nat.lt_of_lt_of_le (Nat.lt_of_le_of_lt ha (tY k)) (Nat.pow_le_pow_right (by decide) h))]
theorem G5 {ky : IntKind} {s : Nat} (hx : env.ev x = .int k (a : Int)) (hy : env.ev y = .int ky (s : Int)) (ha : a ≤ H1 k) :
  Qt C L ⟨dst, .binOp .shr t x y ty2, ty, po, af, gj⟩ env (.int k ((a / 2 ^ s : Nat) : Int)) := fun w _ =>
 qU rfl (.inr rfl) hx hy (by
  have h0 : ¬ ((s : Nat) : Int) < 0 := by omega
  have h1 : Int.fdiv (a : Int) (2 ^ min s k.bits) = ((a / 2 ^ s : Nat) : Int) := by
   rw [← zil ha s, Int.fdiv_eq_ediv_of_nonneg _ (by exact_mod_cast Nat.zero_le _)]
   push_cast; rfl
  simp only [Op.shift, if_neg h0, Int.toNat_natCast, h1]; simp)
theorem GD {ky : IntKind} {s : Nat} (hx : env.ev x = .int k (a : Int)) (hy : env.ev y = .int ky (s : Int)) (h : a * 2 ^ s ≤ H1 k) :
  Qt C L ⟨dst, .binOp .shl t x y ty2, ty, po, af, gj⟩ env (.int k ((a * 2 ^ s : Nat) : Int)) := fun w _ =>
 qU rfl (.inl rfl) hx hy (by
  have h0 : ¬ ((s : Nat) : Int) < 0 := by omega
  have h2 : a * 2 ^ min s k.bits = a * 2 ^ s := by
   rcases Nat.le_total s k.bits with h3 | h3
   ·rw [Nat.min_eq_left h3]
   ·rcases Nat.eq_zero_or_pos a with rfl | hp
    ·simp
    ·exfalso
     have h4 : 2 ^ k.bits ≤ a * 2 ^ s := Nat.le_trans (Nat.pow_le_pow_right (by decide) h3) (Nat.le_mul_of_pos_left _ hp)
     have := tY k; omega
  have h1 : k.wrap ((a : Int) * 2 ^ min s k.bits) = ((a * 2 ^ s : Nat) : Int) := by
   rw [← aT h, ← h2]; push_cast; rfl
  simp only [Op.shift, if_neg h0, Int.toNat_natCast, h1]; simp)
theorem BC {ky : IntKind} {s : Nat} (hx : env.ev x = .int k (a : Int)) (hy : env.ev y = .int ky (s : Int)) (hk : k.signed = false) (hs : s ≤ k.bits) :
  Qt C L ⟨dst, .binOp .shl t x y ty2, ty, po, af, gj⟩ env (.int k ((a * 2 ^ s % yE k : Nat) : Int)) := fun w _ =>
 qU rfl (.inl rfl) hx hy (by
  have h0 : ¬ ((s : Nat) : Int) < 0 := by omega
  have h1 : k.wrap ((a : Int) * 2 ^ min s k.bits) = ((a * 2 ^ s % yE k : Nat) : Int) := by
   rw [← mC _ hk, Nat.min_eq_left hs]; push_cast; rfl
  simp only [Op.shift, if_neg h0, Int.toNat_natCast, h1]; simp)
theorem zh2 (hx : env.ev x = .int k m) (h : k.wrap (-m) = -m) : Qt C L ⟨dst, .unOp .neg t x, ty, po, af, gj⟩ env (.int k (-m)) := fun w _ => by
 simp [execOp, hx, Op.unary, Op.intArith, h]
/-! words of 32 bits -/
variable {p q : BitVec 32}
theorem EE (p : BitVec 32) : p.toNat ≤ H1 .u32 := by have := p.isLt; simp only [H1]; omega
theorem E5 (hx : env.ev x = .int .u32 (p.toNat : Int)) (hy : env.ev y = .int .u32 (q.toNat : Int)) :
  Qt C L ⟨dst, .binOp .add t x y ty2, ty, po, af, gj⟩ env (.int .u32 ((p + q).toNat : Int)) := by
 rw [BitVec.toNat_add]; exact zhZ hx hy rfl
theorem zgr (hx : env.ev x = .int .u32 (p.toNat : Int)) (hy : env.ev y = .int .u32 (q.toNat : Int)) :
  Qt C L ⟨dst, .binOp .mul t x y ty2, ty, po, af, gj⟩ env (.int .u32 ((p * q).toNat : Int)) := by
 rw [BitVec.toNat_mul]; exact zh1 hx hy rfl
theorem K5 (hx : env.ev x = .int .u32 (p.toNat : Int)) (hy : env.ev y = .int .u32 (q.toNat : Int)) :
  Qt C L ⟨dst, .binOp .xor t x y ty2, ty, po, af, gj⟩ env (.int .u32 ((p ^^^ q).toNat : Int)) := by
 rw [BitVec.toNat_xor]; exact nW hx hy (EE p) (EE q)
theorem nV (hx : env.ev x = .int .u32 (p.toNat : Int)) (hy : env.ev y = .int .u32 (q.toNat : Int)) :
  Qt C L ⟨dst, .binOp .or t x y ty2, ty, po, af, gj⟩ env (.int .u32 ((p ||| q).toNat : Int)) := by
 rw [BitVec.toNat_or]; exact zi6 hx hy (EE p) (EE q)
theorem aP (hx : env.ev x = .int .u32 (p.toNat : Int)) (hy : env.ev y = .int .u32 (q.toNat : Int)) :
  Qt C L ⟨dst, .binOp .and t x y ty2, ty, po, af, gj⟩ env (.int .u32 ((p &&& q).toNat : Int)) := by
 rw [BitVec.toNat_and]; exact fN hx hy (EE p) (EE q)
theorem aQ {ky : IntKind} {s : Nat} (hx : env.ev x = .int .u32 (p.toNat : Int)) (hy : env.ev y = .int ky (s : Int)) :
  Qt C L ⟨dst, .binOp .shr t x y ty2, ty, po, af, gj⟩ env (.int .u32 ((p >>> s).toNat : Int)) := by
 rw [BitVec.toNat_ushiftRight, Nat.shiftRight_eq_div_pow]; exact G5 hx hy (EE p)
theorem jZ {ky : IntKind} {s : Nat} (hx : env.ev x = .int .u32 (p.toNat : Int)) (hy : env.ev y = .int ky (s : Int)) (hs : s ≤ 32) :
  Qt C L ⟨dst, .binOp .shl t x y ty2, ty, po, af, gj⟩ env (.int .u32 ((p <<< s).toNat : Int)) := by
 rw [BitVec.toNat_shiftLeft, Nat.shiftLeft_eq]; exact BC hx hy rfl hs
theorem CV (hx : env.ev x = .int .u32 (p.toNat : Int)) : Qt C L ⟨dst, .unOp .xor t x, ty, po, af, gj⟩ env (.int .u32 ((~~~ p).toNat : Int)) := fun w _ => by
 have h : Op.intBits .xor .u32 (if IntKind.signed .u32 then -1 else IntKind.max .u32) (p.toNat : Int) = pure (.int .u32 ((~~~ p).toNat : Int)) := by
  show pure (Value.int .u32 (IntKind.wrap .u32 ((BitVec.ofInt 32 (4294967295 : Int) ^^^ BitVec.ofInt 32 (p.toNat : Int)).toNat : Int))) = _
  have h1 : BitVec.ofInt 32 (p.toNat : Int) = p := by rw [BitVec.ofInt_natCast, BitVec.ofNat_toNat, BitVec.setWidth_eq]
  have h2 : BitVec.ofInt 32 (4294967295 : Int) = BitVec.allOnes 32 := by decide
  rw [h1, h2, BitVec.allOnes_xor, aT (EE _)]
 simp [execOp, hx, Op.unary, h]
theorem AR (b : UInt8) : b.toNat ≤ 255 := by have := b.toNat_lt; omega
theorem gU {src dstT : TypeId} {b : UInt8} (h1 : C.P.underlying src = some (.int .u8)) (h2 : C.P.underlying dstT = some (.int .u32)) (hx : env.ev x = .int .u8 (b.toNat : Int)) :
  Qt C L ⟨dst, .convert src dstT x, ty, po, af, gj⟩ env (.int .u32 ((BitVec.ofNat 32 b.toNat).toNat : Int)) := by
 have hb := AR b
 rw [BitVec.toNat_ofNat, Nat.mod_eq_of_lt ow]
 exact r8 h1 h2 hx (by simp only [H1]; omega)
theorem U4 {src dstT : TypeId} {k : IntKind} {a : Nat} (h1 : C.P.underlying src = some (.int k)) (h2 : C.P.underlying dstT = some (.int .u8)) (hx : env.ev x = .int k (a : Int)) :
  Qt C L ⟨dst, .convert src dstT x, ty, po, af, gj⟩ env (.int .u8 (((UInt8.ofNat a).toNat : Nat) : Int)) := by
 have := rK (C := C) (L := L) (dst := dst) (ty := ty) (po := po) (af := af) (gj := gj) h1 h2 hx
 rwa [mC a rfl] at this
/-! arrays inside a block -/
theorem n7 {e : TypeId} {o N i sz bl : Nat} {ki : IntKind} (ht : C.P.underlying t = some (.array N e)) (hsz : (C.P.info? e).map (·.size) = some sz) (hx : env.ev x = .pointer (some ⟨bl, o, none⟩)) (hy : env.ev y = .int ki (i : Int)) (hi : i < N) :
  Qt C L ⟨dst, .indexAddr t x y, ty, po, af, gj⟩ env (.pointer (some ⟨bl, o + i * sz, none⟩)) := by
 have h := za3 (C := C) (L := L) (dst := dst) (ty := ty) (po := po) (af := af) (gj := gj) ht hsz hx hy hi
 rwa [Q4] at h
theorem zey {e : TypeId} {o N c i sz bl : Nat} {ki : IntKind} (ht : C.P.underlying t = some (.slice e)) (hsz : (C.P.info? e).map (·.size) = some sz) (hx : env.ev x = .slice (some ⟨bl, o, none⟩) N c) (hy : env.ev y = .int ki (i : Int)) (hi : i < N) :
  Qt C L ⟨dst, .indexAddr t x y, ty, po, af, gj⟩ env (.pointer (some ⟨bl, o + i * sz, none⟩)) := by
 have h := zao (C := C) (L := L) (dst := dst) (ty := ty) (po := po) (af := af) (gj := gj) ht hsz hx hy hi
 rwa [Q4] at h
theorem U1 {e : TypeId} {bl o N sz : Nat} (ht : C.P.underlying t = some (.array N e)) (hsz : (C.P.info? e).map (·.size) = some sz) (hx : env.ev x = .pointer (some ⟨bl, o, none⟩)) :
  Qt C L ⟨dst, .slice t x none none none, ty, po, af, gj⟩ env (.slice (some ⟨bl, o, none⟩) N N) := fun w hw => by
 obtain ⟨inf, hin, hs⟩ := Option.map_eq_some_iff.1 hsz
 have h0 : (⟨bl, o, none⟩ : Addr).add 0 = ⟨bl, o, none⟩ := by simp [Addr.add]
 simp [execOp, hx, Instr.sliceAt, Instr.sliceBounds, Instr.sureAddr, run_underlying ht, sizeOf, typeInfo, hin, h0]
theorem za4 {e : TypeId} {bl o N l sz : Nat} {ki : IntKind} (ht : C.P.underlying t = some (.array N e)) (hsz : (C.P.info? e).map (·.size) = some sz) (hx : env.ev x = .pointer (some ⟨bl, o, none⟩)) (hy : env.ev y = .int ki (l : Int)) (hl : l < N) :
  Qt C L ⟨dst, .slice t x (some y) none none, ty, po, af, gj⟩ env (.slice (some ⟨bl, o + l * sz, none⟩) (N - l) (N - l)) := fun w hw => by
 obtain ⟨inf, hin, hs⟩ := Option.map_eq_some_iff.1 hsz
 have hne : ¬ N = l := by omega
 simp [execOp, hx, hy, Instr.sliceAt, Instr.sliceBounds, Instr.sliceBound, asIntOf, Instr.sureAddr, run_underlying ht, sizeOf, typeInfo, hin, hs, Nat.le_of_lt hl, hne, Q4]
theorem zaq {e : TypeId} {bl o N l h sz : Nat} {ki kj : IntKind} (ht : C.P.underlying t = some (.array N e)) (hsz : (C.P.info? e).map (·.size) = some sz) (hx : env.ev x = .pointer (some ⟨bl, o, none⟩)) (hy : env.ev y = .int ki (l : Int)) (hz : env.ev z = .int kj (h : Int)) (hl : l < N) (hh : h ≤ N) (hlh : l ≤ h) :
  Qt C L ⟨dst, .slice t x (some y) (some z) none, ty, po, af, gj⟩ env (.slice (some ⟨bl, o + l * sz, none⟩) (h - l) (N - l)) := fun w hw => by
 obtain ⟨inf, hin, hs⟩ := Option.map_eq_some_iff.1 hsz
 have hne : ¬ N = l := by omega
 simp [execOp, hx, hy, hz, Instr.sliceAt, Instr.sliceBounds, Instr.sliceBound, asIntOf, Instr.sureAddr, run_underlying ht, sizeOf, typeInfo, hin, hs, hlh, hh, hne, Q4]
theorem yP {e : TypeId} {A : y8} {N c l h m sz : Nat} {ki kj kk : IntKind} {zz : Operand} (ht : C.P.underlying t = some (.slice e)) (hsz : (C.P.info? e).map (·.size) = some sz) (hx : env.ev x = .slice A N c) (hy : env.ev y = .int ki (l : Int)) (hz : env.ev z = .int kj (h : Int)) (hzz : env.ev zz = .int kk (m : Int)) (hl : l ≤ h) (hh : h ≤ m) (hm : m ≤ c) :
  Qt C L ⟨dst, .slice t x (some y) (some z) (some zz), ty, po, af, gj⟩ env (.slice (if m = l then A else A.map (·.add (l * sz))) (h - l) (m - l)) := fun w hw => by
 obtain ⟨inf, hin, hs⟩ := Option.map_eq_some_iff.1 hsz
 simp [execOp, hx, hy, hz, hzz, Instr.sliceAt, Instr.slice, Instr.sliceBounds, Instr.sliceBound, asIntOf, run_underlying ht, sizeOf, typeInfo, hin, hs, hl, hh, hm]
end ops
end Go.E
namespace Go.E
variable {C : Ctx} {Q : EQ} {env : Env}
def C1 (L : List Assn) : Assn where
 fp := A8 L
 ok w := ∀ A ∈ L, A.ok w
 stable w w' h hk A hA := A.stable w w' (fun b hb => h b (cU.2 ⟨A, hA, hb⟩)) (hk A hA)
theorem hC (L R : List Assn) : A8 (C1 L :: R) = A8 (L ++ R) := by rw [bP, G2]; rfl
theorem Sat.many {w : World} {L R : List Assn} : Sat w (C1 L :: R) ↔ Sat w (L ++ R) := by
 constructor
 ·intro h
  refine ⟨fun A hA => ?_, by rw [← hC]; exact h.lt, by rw [← hC]; exact h.nodup⟩
  rcases List.mem_append.1 hA with hA | hA
  ·exact h.ok (C1 L) (List.mem_cons_self ..) A hA
  ·exact h.ok A (List.mem_cons_of_mem _ hA)
 ·intro h
  refine ⟨fun A hA => ?_, by rw [hC]; exact h.lt, by rw [hC]; exact h.nodup⟩
  rcases List.mem_cons.1 hA with rfl | hA
  ·exact fun A hA => h.ok A (List.mem_append.2 (.inl hA))
  ·exact h.ok A (List.mem_append.2 (.inr hA))
theorem St.many {w0 w : World} {M : List Nat} {L R : List Assn} : St w0 M (C1 L :: R) w ↔ St w0 M (L ++ R) w :=
  ⟨fun h => ⟨h.os, h.tape, h.output, h.size, h.block, Sat.many.1 h.sat, by rw [← hC]; exact h.own⟩,
   fun h => ⟨h.os, h.tape, h.output, h.size, h.block, Sat.many.2 h.sat, by rw [hC]; exact h.own⟩⟩
theorem St.many_join {w0 w : World} {M : List Nat} {A : Assn} {L R : List Assn} (h : St w0 M (A :: C1 L :: R) w) : St w0 M (C1 (L ++ [A]) :: R) w := by
 refine St.many.2 ?_
 have h1 : St w0 M (C1 L :: A :: R) w := h.perm (List.Perm.swap ..)
 have h2 := St.many.1 h1
 refine h2.perm ?_
 rw [List.append_assoc]; exact List.Perm.refl _
theorem x3 {L : List Assn} {k : Code} (h : TC C k Q env (C1 [] :: L)) : TC C k Q env L := fun a w ha hw => h a w ha (St.many.2 hw)
theorem Rd.many {A : Assn} {Ls L : List Assn} (h : Rd C L (C1 Ls)) (hA : A ∈ Ls) : Rd C L A := h.sub (fun b hb => cU.2 ⟨A, hA, hb⟩) (fun w hw => hw A hA)
end Go.E
