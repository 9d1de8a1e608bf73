/-
  The program logic, eighth part: small rules, and what is handed to a callee for reading.
-/
import Derived.Test.YtlneklemjfefpaaDoorEG
namespace Go.E
set_option linter.unusedVariables false
set_option linter.unusedSectionVars false
variable {C : Ctx} {Q : EQ} {env : Env} {L : List Assn} {ops : Array Oper} {rest : List Oper}
section ops
variable {dst : Option Tmp} {ty : TypeId} {pos : String} {after : Array Edge} {guard : Option (Nat × Bool)} {x y z : Operand} {v : Value} {T e : TypeId} {K : Value → List Assn → Prop}
theorem Qt.eqp_some {t ty2 : TypeId} {a : Addr} (ht : C.P.underlying T = some (.pointer t)) (hx : env.ev x = .pointer (some a)) : Qt C L ⟨dst, .binOp .eql T x (.const (.pointer none)) ty2, ty, pos, after, guard⟩ env (.bool false) := Qt.eqpnil ht hx
theorem Qt.eqp_none {t ty2 : TypeId} (ht : C.P.underlying T = some (.pointer t)) (hx : env.ev x = .pointer none) : Qt C L ⟨dst, .binOp .eql T x (.const (.pointer none)) ty2, ty, pos, after, guard⟩ env (.bool true) := Qt.eqpnil ht hx
theorem Qt.nep_some {t ty2 : TypeId} {a : Addr} (ht : C.P.underlying T = some (.pointer t)) (hx : env.ev x = .pointer (some a)) : Qt C L ⟨dst, .binOp .neq T x (.const (.pointer none)) ty2, ty, pos, after, guard⟩ env (.bool true) := Qt.nepnil ht hx
theorem Qt.nep_none {t ty2 : TypeId} (ht : C.P.underlying T = some (.pointer t)) (hx : env.ev x = .pointer none) : Qt C L ⟨dst, .binOp .neq T x (.const (.pointer none)) ty2, ty, pos, after, guard⟩ env (.bool false) := Qt.nepnil ht hx
end ops

theorem Qt.convertz {dst : Option Tmp} {ty : TypeId} {pos : String} {after : Array Edge} {guard : Option (Nat × Bool)} {x : Operand} {src dstT : TypeId} {k kd : IntKind} {m : Int} (h1 : C.P.underlying src = some (.int k)) (h2 : C.P.underlying dstT = some (.int kd)) (hx : env.ev x = .int k m) (h0 : 0 ≤ m) (h : m.toNat ≤ kmax kd) :
    Qt C L ⟨dst, .convert src dstT x, ty, pos, after, guard⟩ env (.int kd ((m.toNat : Nat) : Int)) :=
  Qt.convert (a := m.toNat) h1 h2 (by rw [hx, Int.toNat_of_nonneg h0]) h

/-- What may be handed to a callee for reading. -/
def Rd (C : Ctx) (L : List Assn) (A : Assn) : Prop := ∀ w, St C.w0 C.M L w → Ro w [] A
theorem Rd.mem {A : Assn} (h : A ∈ L) : Rd C L A := fun w hw => ⟨hw.ok h, fun b hb => ⟨hw.sat.lt b (mem_fps.2 ⟨A, h, hb⟩), fun hn => by cases hn⟩⟩
theorem Rd.at {A : Assn} (i : Nat) (h : L[i]? = some A) : Rd C L A := Rd.mem (List.mem_of_getElem? h)
theorem Rd.ro {A : Assn} (h : Ro C.w0 C.M A) : Rd C L A := fun w hw => h.go hw (fun b hb => by cases hb)
theorem Rd.has {A : Assn} (h : Rd C L A) : Has C L A := fun w hw => (h w hw).1
theorem Rd.sub {A B : Assn} (h : Rd C L A) (hf : ∀ b ∈ B.fp, b ∈ A.fp) (hk : ∀ w, A.ok w → B.ok w) : Rd C L B := fun w hw => ⟨hk w (h w hw).1, fun b hb => (h w hw).2 b (hf b hb)⟩
def slfp : Option Addr → List Value → List Nat
  | some a, _ :: _ => [a.block]
  | _, _ => []
theorem SlA_fp (A : Option Addr) (cs : List Value) : (SlA A cs).fp = slfp A cs := by
  cases A <;> cases cs <;> rfl
theorem mem_slfp {A : Option Addr} {cs : List Value} {b : Nat} (h : b ∈ slfp A cs) : ∃ a, A = some a ∧ b = a.block ∧ cs ≠ [] := by
  cases A with
  | none => cases cs <;> cases h
  | some a => cases cs with
    | nil => cases h
    | cons u l => exact ⟨a, rfl, List.mem_singleton.1 h, fun e => by cases e⟩
theorem in_slfp {a : Addr} {cs : List Value} (h : cs ≠ []) : a.block ∈ slfp (some a) cs := by
  cases cs with
  | nil => exact absurd rfl h
  | cons u l => exact List.mem_singleton.2 rfl
theorem Rd.own {sz n c : Nat} {A : Option Addr} {e : TypeId} {xs : List Value} (h : Rd C L (OwnA e sz A n c xs)) : Rd C L (SlA A xs) := h.sub (fun b hb => by
  rw [SlA_fp] at hb
  obtain ⟨a, rfl, rfl, _⟩ := mem_slfp hb
  exact List.mem_singleton.2 rfl) (fun _ hw => OwnA.sl hw)
theorem Rd.blk {b : Nat} {T : TypeId} {cs : List Value} (h : Rd C L (Blk b T cs)) : Rd C L (SlA (some ⟨b, 0, none⟩) cs) := h.sub (fun k hk => by
  rw [SlA_fp] at hk
  obtain ⟨a, ha, rfl, _⟩ := mem_slfp hk
  injection ha with ha; subst ha
  exact List.mem_singleton.2 rfl) (fun w hw j u hj => ⟨_, rfl, by rw [add_cell, cell_of_blk hw]; simpa using hj⟩)
theorem Rd.take {A : Option Addr} {cs : List Value} (h : Rd C L (SlA A cs)) (k : Nat) : Rd C L (SlA A (cs.take k)) := h.sub (fun b hb => by
  rw [SlA_fp] at hb ⊢
  obtain ⟨a, rfl, rfl, hne⟩ := mem_slfp hb
  exact in_slfp (fun e => hne (by rw [e]; simp))) (fun _ hw => SlA.take hw k)
theorem Rd.cut {A : Option Addr} {cs : List Value} (h : Rd C L (SlA A cs)) {c l k : Nat} (hc : c = l → cs.length ≤ k) : Rd C L (SlA (if c = l then A else A.map (·.add k)) (cs.drop k)) := h.sub (fun b hb => by
  rw [SlA_fp] at hb ⊢
  obtain ⟨a, ha, rfl, hne⟩ := mem_slfp hb
  have hcs : cs ≠ [] := fun e => hne (by rw [e]; simp)
  split at ha
  · subst ha; exact in_slfp hcs
  · cases A with
    | none => cases ha
    | some a' =>
      injection ha with ha
      subst ha
      rw [add_block]; exact in_slfp hcs) (fun _ hw => SlA.cut hw hc)
/-- A callee's own owned blocks: what else is known may be read. -/
theorem Ro.of_pre {w0 w : World} {M : List Nat} {Pre R : List Assn} {A : Assn} (s : St w0 M (Pre ++ R) w) (h : Ro w0 M A) : Ro w (fps Pre) A :=
  h.go s (fun b hb => s.own b (by rw [fps_append]; exact List.mem_append.2 (.inl hb)))
theorem Ro.of_rest {w0 w : World} {M : List Nat} {Pre R : List Assn} {A : Assn} (s : St w0 M (Pre ++ R) w) (h : A ∈ R) : Ro w (fps Pre) A := Ro.of_mem s.sat h
end Go.E
