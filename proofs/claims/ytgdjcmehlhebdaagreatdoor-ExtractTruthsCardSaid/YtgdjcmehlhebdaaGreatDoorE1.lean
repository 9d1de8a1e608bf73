/- A program logic over the kit's fenced weakest precondition: environments as functions, a s -/
import Derived.Test.YtgdjcmehlhebdaaGreatDoorOW
import Derived.TacticsIn
import Derived.RangeFuncCalls
import Derived.Laws.Sem
import Derived.Laws.World
import Derived.IntWalk
import Derived.Laws.Cells
import Derived.Laws.Rows
import Derived.Laws.BitsAllLaws
import Derived.Laws.Entries
import Derived.Deep.MidRow
import Derived.Laws.CopyRow
import Derived.Maps.AppendAt
import Derived.RangeFuncLeaves
import Derived.RangeFuncRecord
set_option maxHeartbeats 25600000
set_option linter.all false
namespace Go.E
structure Assn where
 fp : List Nat
 ok : World → Prop
 stable : ∀ w w' : World, (∀ b ∈ fp, w'.heap[b]? = w.heap[b]?) → ok w → ok w'
def A8 (L : List Assn) : List Nat := L.flatMap Assn.fp
theorem bP (A : Assn) (L : List Assn) : A8 (A :: L) = A.fp ++ A8 L := rfl
theorem G2 (L L' : List Assn) : A8 (L ++ L') = A8 L ++ A8 L' := by simp [A8]
theorem cU {L : List Assn} {b : Nat} : b ∈ A8 L ↔ ∃ A ∈ L, b ∈ A.fp := by simp [A8]
theorem vM {L L' : List Assn} (h : L.Perm L') : (A8 L).Perm (A8 L') := h.flatMap_right _
structure Sat (w : World) (L : List Assn) : Prop where
 ok : ∀ A ∈ L, A.ok w
 lt : ∀ b ∈ A8 L, b < w.heap.size
 nodup : (A8 L).Nodup
structure St (w0 : World) (M : List Nat) (L : List Assn) (w : World) : Prop where
 os : w.os = w0.os
 tape : w.tape = w0.tape
 output : w.output = w0.output
 size : w0.heap.size ≤ w.heap.size
 block : ∀ b, b < w0.heap.size → b ∉ M → w.heap[b]? = w0.heap[b]?
 sat : Sat w L
 own : ∀ b ∈ A8 L, b ∈ M ∨ w0.heap.size ≤ b
def Ro (w : World) (M : List Nat) (A : Assn) : Prop := A.ok w ∧ ∀ b ∈ A.fp, b < w.heap.size ∧ b ∉ M
theorem Sat.perm {w : World} {L L' : List Assn} (h : Sat w L) (p : L.Perm L') : Sat w L' :=
 ⟨fun A hA => h.ok A (p.mem_iff.2 hA), fun b hb => h.lt b ((vM p).mem_iff.2 hb), (vM p).nodup_iff.1 h.nodup⟩
theorem Sat.left {w : World} {L R : List Assn} (h : Sat w (L ++ R)) : Sat w L :=
  ⟨fun A hA => h.ok A (List.mem_append.2 (.inl hA)), fun b hb => h.lt b (by rw [G2]; exact List.mem_append.2 (.inl hb)),
   by have := h.nodup; rw [G2] at this; exact (List.nodup_append.1 this).1⟩
theorem Sat.right {w : World} {L R : List Assn} (h : Sat w (L ++ R)) : Sat w R :=
  ⟨fun A hA => h.ok A (List.mem_append.2 (.inr hA)), fun b hb => h.lt b (by rw [G2]; exact List.mem_append.2 (.inr hb)),
   by have := h.nodup; rw [G2] at this; exact (List.nodup_append.1 this).2.1⟩
theorem Sat.apart {w : World} {L R : List Assn} (h : Sat w (L ++ R)) : ∀ b ∈ A8 L, b ∉ A8 R := by
 have := h.nodup
 rw [G2] at this
 intro b hb hb'
 exact (List.nodup_append.1 this).2.2 b hb b hb' rfl
theorem Sat.nil (w : World) : Sat w [] := ⟨(fun _ h => nomatch h), (fun _ h => nomatch h), List.nodup_nil⟩
theorem St.perm {w0 w : World} {M : List Nat} {L L' : List Assn} (h : St w0 M L w) (p : L.Perm L') : St w0 M L' w :=
 ⟨h.os, h.tape, h.output, h.size, h.block, h.sat.perm p, fun b hb => h.own b ((vM p).mem_iff.2 hb)⟩
theorem St.left {w0 w : World} {M : List Nat} {L R : List Assn} (h : St w0 M (L ++ R) w) : St w0 M L w :=
 ⟨h.os, h.tape, h.output, h.size, h.block, h.sat.left, fun b hb => h.own b (by rw [G2]; exact List.mem_append.2 (.inl hb))⟩
def Sub (A B : List Assn) : Prop := ∃ R, B.Perm (A ++ R)
theorem Sub.refl (A : List Assn) : Sub A A := ⟨[], by simp⟩
theorem e5 {A B : List Assn} (h : B.Perm A) : Sub A B := ⟨[], by simpa using h⟩
theorem Sub.nil (B : List Assn) : Sub [] B := ⟨B, by simp⟩
theorem Sub.trans {A B C : List Assn} (h : Sub A B) (k : Sub B C) : Sub A C := by
 obtain ⟨R, hR⟩ := h
 obtain ⟨S, hS⟩ := k
 exact ⟨R ++ S, hS.trans (by rw [← List.append_assoc]; exact hR.append_right S)⟩
theorem Sub.drop (X : Assn) {A B : List Assn} (h : Sub A B) : Sub A (X :: B) := by
 obtain ⟨R, hR⟩ := h
 exact ⟨X :: R, (hR.cons X).trans List.perm_middle.symm⟩
theorem Sub.keep (X : Assn) {A B : List Assn} (h : Sub A B) : Sub (X :: A) (X :: B) := by
 obtain ⟨R, hR⟩ := h
 exact ⟨R, hR.cons X⟩
theorem St.sub {w0 w : World} {M : List Nat} {L L' : List Assn} (h : St w0 M L' w) (s : Sub L L') : St w0 M L w := by
 obtain ⟨R, hR⟩ := s
 exact (h.perm hR).left
theorem eJ {w : World} {L : List Assn} (h : Sat w L) : St w (A8 L) L w :=
 ⟨rfl, rfl, rfl, Nat.le_refl _, fun _ _ _ => rfl, h, fun _ hb => .inl hb⟩
theorem St.ok {w0 w : World} {M : List Nat} {L : List Assn} (h : St w0 M L w) {A : Assn} (hA : A ∈ L) : A.ok w := h.sat.ok A hA
theorem Ro.at {w0 w : World} {M : List Nat} {L : List Assn} {A : Assn} (h : Ro w0 M A) (s : St w0 M L w) : A.ok w :=
 A.stable w0 w (fun b hb => s.block b (h.2 b hb).1 (h.2 b hb).2) h.1
theorem Ro.go {w0 w : World} {M N : List Nat} {L : List Assn} {A : Assn} (h : Ro w0 M A) (s : St w0 M L w) (hN : ∀ b ∈ N, b ∈ M ∨ w0.heap.size ≤ b) : Ro w N A :=
 ⟨h.at s, fun b hb => ⟨Nat.lt_of_lt_of_le (h.2 b hb).1 s.size, fun hn => by
  rcases hN b hn with h1 | h1
  ·exact (h.2 b hb).2 h1
  ·have := (h.2 b hb).1; omega⟩⟩
theorem zeA {w : World} {P R : List Assn} {A : Assn} (s : Sat w (P ++ R)) (hA : A ∈ R) : Ro w (A8 P) A :=
 ⟨s.ok A (List.mem_append.2 (.inr hA)), fun b hb => ⟨s.lt b (by rw [G2]; exact List.mem_append.2 (.inr (cU.2 ⟨A, hA, hb⟩))),
  fun hn => s.apart b hn (cU.2 ⟨A, hA, hb⟩)⟩⟩
theorem St.frame {w0 w w' : World} {M : List Nat} {P R L' : List Assn} (h : St w0 M (P ++ R) w) (k : St w (A8 P) L' w') : St w0 M (L' ++ R) w' := by
 have hR : ∀ b ∈ A8 R, w'.heap[b]? = w.heap[b]? := fun b hb =>
  k.block b (h.sat.right.lt b hb) (fun hp => h.sat.apart b hp hb)
 refine ⟨k.os.trans h.os, k.tape.trans h.tape, k.output.trans h.output, Nat.le_trans h.size k.size, fun b hb hM => ?_, ⟨?_, ?_, ?_⟩, ?_⟩
 ·rw [k.block b (Nat.lt_of_lt_of_le hb h.size) (fun hp => ?_)]
  ·exact h.block b hb hM
  ·rcases h.own b (by rw [G2]; exact List.mem_append.2 (.inl hp)) with h1 | h1
   ·exact hM h1
   ·omega
 ·intro A hA
  rcases List.mem_append.1 hA with hA | hA
  ·exact k.sat.ok A hA
  ·exact A.stable w w' (fun b hb => hR b (cU.2 ⟨A, hA, hb⟩)) (h.sat.right.ok A hA)
 ·intro b hb
  rw [G2] at hb
  rcases List.mem_append.1 hb with hb | hb
  ·exact k.sat.lt b hb
  ·exact Nat.lt_of_lt_of_le (h.sat.right.lt b hb) k.size
 ·rw [G2]
  refine List.nodup_append.2 ⟨k.sat.nodup, h.sat.right.nodup, fun x hx y hy hxy => ?_⟩
  subst hxy
  rcases k.own x hx with h1 | h1
  ·exact h.sat.apart x h1 hy
  ·have := h.sat.right.lt x hy; omega
 ·intro b hb
  rw [G2] at hb
  rcases List.mem_append.1 hb with hb | hb
  ·rcases k.own b hb with h1 | h1
   ·exact h.own b (by rw [G2]; exact List.mem_append.2 (.inl h1))
   ·exact .inr (Nat.le_trans h.size h1)
  ·exact h.own b (by rw [G2]; exact List.mem_append.2 (.inr hb))
/-! ### environments -/
structure Env where
 f : Nat → Value
 ds : List Nat
instance : CoeFun Env (fun _ => Nat → Value) := ⟨Env.f⟩
def Env.put (env : Env) (d : Nat) (v : Value) : Env := ⟨fun t => bif Nat.beq t d then v else env.f t, env.ds⟩
def Env.putO (env : Env) (d : Option Nat) (v : Value) : Env := match d with
 | some d => env.put d v
 | none => env
def Env.ev (env : Env) : Operand → Value
 | .tmp t => env t
 | .const v => v
 | .global g => .pointer (some ⟨g, 0, none⟩)
 | .func f => .func (.func f) #[] #[]
theorem V8 (env : Env) (d : Nat) (v : Value) : env.put d v d = v := by
 show (bif Nat.beq d d then v else env.f d) = v
 rw [show Nat.beq d d = true from Nat.beq_refl d]; rfl
theorem L7 (env : Env) {d t : Nat} (v : Value) (h : t ≠ d) : env.put d v t = env t := by
 have hb : Nat.beq t d = false := by
  cases hh : Nat.beq t d with
  | false => rfl
  | true => exact absurd (Nat.eq_of_beq_eq_true hh) h
 show (bif Nat.beq t d then v else env.f t) = env.f t
 rw [hb]; rfl
def sF (D : Nat) : Deferred := { target := .collected D, args := #[] }
def Fits (n : Nat) (a : Act) (env : Env) : Prop := a.defers = env.ds.map sF ∧ a.tmps.size = n ∧ ∀ t, a.tmps.getD t undef = env t
theorem Fits.ev {n : Nat} {a : Act} {env : Env} (h : Fits n a env) : a.eval = env.ev := by
 funext x
 cases x <;> simp only [Act.eval, Env.ev]
 exact h.2.2 _
theorem Fits.put {n : Nat} {a : Act} {env : Env} (h : Fits n a env) {d : Nat} (hd : d < n) (v : Value) : Fits n (a.put (some d) v) (env.put d v) := by
 refine ⟨h.1, by simp [Act.put, h.2.1], fun t => ?_⟩
 by_cases ht : t = d
 ·subst ht
  rw [V8]
  simp [Act.put, h.2.1, hd]
 ·rw [L7 _ _ ht, ← h.2.2 t]
  simp [Act.put, Array.getElem?_setIfInBounds_ne (Ne.symm ht)]
def vF (d : Option Nat) (n : Nat) : Bool := match d with
 | some d => Nat.blt d n
 | none => true
theorem Fits.putO {n : Nat} {a : Act} {env : Env} (h : Fits n a env) {d : Option Nat} (hd : vF d n = true) (v : Value) : Fits n (a.put d v) (env.putO d v) := by
 cases d with
 | none => exact h
 | some d => exact h.put (by simpa [vF] using hd) v
def fD (ops : Array Oper) (env : Env) (j : Nat) : Option Bool :=
 match (ops[j]?).bind (·.dst) with
 | some t => (match env t with
  | .bool b => some b
  | _ => none)
 | none => none
theorem nP {n : Nat} {a : Act} {env : Env} (h : Fits n a env) (ops : Array Oper) : yielded ops a.tmps = fD ops env := by
 funext j
 unfold yielded fD
 cases hd : (ops[j]?).bind (·.dst) with
 | none => rfl
 | some t =>
  simp only [Option.bind_some]
  rw [← h.2.2 t]
  cases ht : a.tmps[t]? with
  | none => simp [ht, undef]
  | some v => simp only [ht, Array.getD_eq_getD_getElem?, Option.getD_some]; cases v <;> rfl
/-! ### the judgements -/
def FW (r : Option Nat) : Fence := { fn := fun _ => True, depth := none, alive := false, round := r }
structure Ctx where
 P : Program
 n : Nat
 w0 : World
 M : List Nat
 r : Option Nat
abbrev EQ := Exit → Env → List Assn → Prop
def JY (C : Ctx) (Q : EQ) : Exit → Act → World → Prop := fun x a w => ∃ env L, Fits C.n a env ∧ St C.w0 C.M L w ∧ Q x env L
def TC (C : Ctx) (c : Code) (Q : EQ) (env : Env) (L : List Assn) : Prop :=
 ∀ a w, Fits C.n a env → St C.w0 C.M L w → c.wpIn (FW C.r) 0 C.P (JY C Q) a w
@[reducible] def JO (C : Ctx) (y : Code) (Q : EQ) : EQ := fun x env L => match x with
 | .normal => TC C y Q env L
 | x => Q x env L
@[reducible] def zi9 (id : Nat) (Q : EQ) : EQ := fun x env L => match x with
 | .exit i => match Nat.beq i id with
  | true => Q .normal env L
  | false => Q (.exit i) env L
 | x => Q x env L
variable {C : Ctx} {Q : EQ} {env : Env} {L : List Assn}
theorem TC.mono {c : Code} {Q Q' : EQ} (h : TC C c Q env L) (hq : ∀ x env L, Q x env L → Q' x env L) : TC C c Q' env L :=
 fun a w ha hw => wpIn_mono (h a w ha hw) fun _ _ _ ⟨e, l, h1, h2, h3⟩ => ⟨e, l, h1, h2, hq _ _ _ h3⟩
theorem TC.sub {c : Code} {L L' : List Assn} (h : TC C c Q env L) (s : Sub L L') : TC C c Q env L' := fun a w ha hw => h a w ha (hw.sub s)
theorem c8 {x y : Code} (h : TC C x (JO C y Q) env L) : TC C (.seq x y) Q env L := fun a w ha hw =>
 wpIn_seq (wpIn_mono (h a w ha hw) fun e a' w' ⟨env', L', h1, h2, h3⟩ => by
  cases e with
  | normal => exact h3 a' w' h1 h2
  | _ => exact ⟨env', L', h1, h2, h3⟩)
theorem w8 (h : Q .normal env L) : TC C .skip Q env L := fun _ _ ha hw => wpIn_skip ⟨env, L, ha, hw, h⟩
theorem a9 (h : Q .ret env L) : TC C .ret Q env L := fun _ _ ha hw => wpIn_ret ⟨env, L, ha, hw, h⟩
theorem i7 {id : Nat} (h : Q (.exit id) env L) : TC C (.exit id) Q env L := fun _ _ ha hw => wpIn_exit ⟨env, L, ha, hw, h⟩
theorem C5 {id : Nat} {c : Code} (h : TC C c (zi9 id Q) env L) : TC C (.block id c) Q env L := fun a w ha hw =>
 wpIn_block (wpIn_mono (h a w ha hw) fun e a' w' ⟨env', L', h1, h2, h3⟩ => by
  cases e with
  | exit i =>
   have h4 : (match Nat.beq i id with
    | true => Q .normal env' L'
    | false => Q (.exit i) env' L') := h3
   simp only [Exit.inBlock]
   cases hb : Nat.beq i id with
   | true =>
    rw [hb] at h4
    simp only [Nat.eq_of_beq_eq_true hb, if_true]
    exact ⟨env', L', h1, h2, h4⟩
   | false =>
    rw [hb] at h4
    have hne : ¬ i = id := fun e => by subst e; rw [Nat.beq_refl] at hb; cases hb
    simp only [hne, if_false]
    exact ⟨env', L', h1, h2, h4⟩
  | _ => exact ⟨env', L', h1, h2, h3⟩)
theorem BE {c : Operand} {x y : Code} {t : Bool} (hc : env.ev c = .bool t) (h : TC C (if t then x else y) Q env L) : TC C (.cond c x y) Q env L :=
 fun a w ha hw => wpIn_cond (t := t) (by rw [ha.ev]; exact hc) (h a w ha hw)
theorem eK {c : Operand} {x y : Code} {t : Bool} (hc : env.ev c = .bool t) (h1 : t = true → TC C x Q env L) (h2 : t = false → TC C y Q env L) : TC C (.cond c x y) Q env L := by
 refine BE hc ?_
 cases t with
 | true => exact h1 rfl
 | false => exact h2 rfl
/-! ### loops -/
def has : List Nat → Nat → Bool
 | [], _ => false
 | d :: l, t => match Nat.beq d t with
  | true => true
  | false => has l t
theorem oO {t : Nat} : ∀ {l : List Nat}, has l t = true → t ∈ l
 | [], h => by cases h
 | d :: l, h => by
  unfold has at h
  cases hb : Nat.beq d t with
  | true => exact (Nat.eq_of_beq_eq_true hb) ▸ List.mem_cons_self ..
  | false => rw [hb] at h; exact List.mem_cons_of_mem _ (oO h)
def scr (mods : List Nat) (u env : Env) : Env := ⟨fun t => bif has mods t then u t else env t, env.ds⟩
def puts : List (Nat × Value) → Env → Env
 | [], env => env
 | (d, v) :: l, env => (puts l env).put d v
def Agr (mods : List Nat) (vars : List (Nat × Value)) (env e : Env) : Prop :=
 ((∀ t, has mods t = false → e t = env t) ∧ e.ds = env.ds) ∧ ∀ x ∈ vars, e x.1 = x.2
theorem HF : ∀ (vars : List (Nat × Value)) (e : Env), (puts vars e).ds = e.ds
 | [], _ => rfl
 | (_, _) :: l, e => HF l e
theorem Env.ext' {e e' : Env} (h : ∀ t, e t = e' t) (hd : e.ds = e'.ds) : e = e' := by
 cases e; cases e'
 simp only at hd h
 subst hd
 congr 1
 funext t; exact h t
theorem Agr.eq {mods : List Nat} {vars : List (Nat × Value)} {env e : Env} (h : Agr mods vars env e) : e = puts vars (scr mods e env) := by
 refine Env.ext' (fun t => ?_) (by rw [HF]; exact h.1.2)
 obtain ⟨⟨h1, _⟩, h2⟩ := h
 induction vars with
 | nil =>
  simp only [puts, scr]
  cases ht : has mods t with
  | true => rfl
  | false => exact h1 t ht
 | cons x l ih =>
  obtain ⟨d, v⟩ := x
  by_cases htd : t = d
  ·subst htd
   rw [puts, V8]
   exact h2 (t, v) (List.mem_cons_self ..)
  ·rw [puts, L7 _ _ htd]
   exact ih (fun x hx => h2 x (List.mem_cons_of_mem _ hx))
def Out (mods : List Nat) (env e : Env) : Prop := (∀ t, has mods t = false → e t = env t) ∧ e.ds = env.ds
theorem Out.refl (mods : List Nat) (env : Env) : Out mods env env := ⟨fun _ _ => rfl, rfl⟩
theorem Out.scr {mods : List Nat} {env e u : Env} (h : Out mods env e) : Out mods env (scr mods u e) := ⟨fun t ht => by
 simp only [E.scr, ht, cond_false]; exact h.1 t ht, h.2⟩
theorem X4 {mods ms : List Nat} {env e u : Env} (hs : ms.all (fun x => has mods x) = true) (h : Out mods env e) : Out mods env (E.scr ms u e) := ⟨fun t ht => by
 simp only [E.scr]
 cases hc : has ms t with
 | false => exact h.1 t ht
 | true =>
  have : t ∈ ms := oO hc
  have := (List.all_eq_true.1 hs) t this
  exact absurd (ht.symm.trans this) (by decide), h.2⟩
theorem Out.put {mods : List Nat} {env e : Env} {d : Nat} {v : Value} (hd : has mods d = true) (h : Out mods env e) : Out mods env (e.put d v) := ⟨fun t ht => by
 rw [L7 _ _ (fun e => by subst e; rw [ht] at hd; cases hd)]; exact h.1 t ht, h.2⟩
theorem U3 {mods : List Nat} {env e : Env} : ∀ {vars : List (Nat × Value)}, vars.all (fun x => has mods x.1) = true → Out mods env e → Out mods env (puts vars e)
 | [], _, h => h
 | (d, v) :: l, hv, h => by
  simp only [List.all_cons, Bool.and_eq_true] at hv
  exact Out.put hv.1 (U3 hv.2 h)
def zj2 {γ : Type} (mods : List Nat) (vars : γ → List (Nat × Value)) (H : γ → List Assn) (inv : γ → Prop) (μ : γ → Nat) (BM : Env) (g : γ) (Q : EQ) : EQ := fun x e L => match x with
 | .normal => ∃ g', inv g' ∧ μ g' < μ g ∧ Agr mods (vars g') BM e ∧ Sub (H g') L
 | x => Q x e L
theorem l5 {γ : Type} (mods : List Nat) (vars : γ → List (Nat × Value)) (H : γ → List Assn) (inv : γ → Prop) (μ : γ → Nat) {c : Code}
  (g0 : γ) (h0 : inv g0) (henv : Agr mods (vars g0) env env) (hL : Sub (H g0) L)
  (step : ∀ g u, inv g → TC C c (zj2 mods vars H inv μ env g Q) (puts (vars g) (scr mods u env)) (H g)) : TC C (.loop c) Q env L := by
 intro a w ha hw b k cs hro hb hr
 have key : ∀ j g, μ g = j → inv g → ∀ a w e, Fits C.n a e → Agr mods (vars g) env e → St C.w0 C.M (H g) w →
   ∃ x a' w', JY C Q x a' w' ∧ ArrivesIn (Machine.fenced C.P (FW C.r)) C.P (lone (b.atR a (.code c :: .inLoop c :: k)) cs w) b k cs x a' w' := by
  intro j
  induction j using Nat.strongRecOn with
  | _ j ih =>
   intro g hj hi a w e hf hag hst
   obtain ⟨x, a₁, w₁, ⟨e1, L1, hf1, hs1, hq1⟩, harr⟩ := step g e hi a w (by rw [← hag.eq]; exact hf) hst b (.inLoop c :: k) cs hro hb hr
   cases x with
   | normal =>
    obtain ⟨g', hi', hlt, hag', hsub⟩ := hq1
    obtain ⟨x₂, a₂, w₂, hq₂, harr₂⟩ := ih (μ g') (hj ▸ hlt) g' rfl hi' a₁ w₁ e1 hf1 hag' (hs1.sub hsub)
    exact ⟨x₂, a₂, w₂, hq₂, .of_steps (StepsIn.trans harr (.one (fenced_calm hb hr rfl) stepR_inLoop)) harr₂⟩
   | exit id => exact ⟨_, a₁, w₁, ⟨e1, L1, hf1, hs1, hq1⟩, .pass (x := .inLoop c) rfl (fun _ _ => .inl (by simp)) harr⟩
   | goto l => exact ⟨_, a₁, w₁, ⟨e1, L1, hf1, hs1, hq1⟩, .pass (x := .inLoop c) rfl (fun _ _ => .inl (by simp)) harr⟩
   | ret => exact ⟨_, a₁, w₁, ⟨e1, L1, hf1, hs1, hq1⟩, .pass (x := .inLoop c) rfl (fun _ _ => .inl (by simp)) harr⟩
   | panic ch => exact ⟨_, a₁, w₁, ⟨e1, L1, hf1, hs1, hq1⟩, .pass (x := .inLoop c) rfl (fun _ _ => .inl (by simp)) harr⟩
   | outgrown => exact ⟨_, a₁, w₁, ⟨e1, L1, hf1, hs1, hq1⟩, .pass (x := .inLoop c) rfl (fun _ _ => .inl (by simp)) harr⟩
 obtain ⟨x, a', w', hq, harr⟩ := key _ g0 rfl h0 a w env ha henv (hw.sub hL)
 exact ⟨x, a', w', hq, .of_steps (.one (fenced_calm hb hr rfl) stepR_loop) harr⟩
end Go.E
namespace Go.E
variable {C : Ctx} {Q : EQ} {env : Env} {L : List Assn}
def Res (P : Program) (r : Option Nat) (Φ : Value → World → Prop) : Result Next → Prop
 | .ok (.value v) w' => Φ v w'
 | .ok .skip w' => Φ undef w'
 | .ok (.enter f args) w' => Calls P f args w' fun e w'' => ∃ v, e = .returned v ∧ Φ v w''
 | .ok (.row row args) w' => RowsIn (FW r) 0 P row args w' Φ
 | .ok (.round l f tmps assign body) w' => RoundIn (FW r) 0 P l f tmps assign body w' fun e w'' => ∃ v, e = .returned v ∧ Φ v w''
 | _ => False
theorem Res.mono {P : Program} {r : Option Nat} {Φ Φ' : Value → World → Prop} {x : Result Next} (h : Res P r Φ x) (hm : ∀ v w, Φ v w → Φ' v w) : Res P r Φ' x := by
 cases x with
 | ok n w' =>
  cases n <;> simp only [Res] at h ⊢
  case value v => exact hm _ _ h
  case skip => exact hm _ _ h
  case enter f args => exact h.mono fun _ _ ⟨v, he, hv⟩ => ⟨v, he, hm _ _ hv⟩
  case row row args => exact h.mono hm
  case round l f tmps assign body => exact h.mono fun _ _ ⟨v, he, hv⟩ => ⟨v, he, hm _ _ hv⟩
 | halt x w' => exact h
theorem mU {P : Program} {r : Option Nat} {n : Nat} {f : FuncId} {args : Array Value} {w : World} {R : Ending → World → Prop} (h : Calls P f args w R) : CallsIn (FW r) n P f args w R := by
 have h1 : CallsIn Fence.wide n P f args w R := callsIn_wide.2 h
 cases r with
 | none => exact h1
 | some l => exact h1.inRound l
theorem Res.upon {P : Program} {r : Option Nat} {Φ : Value → World → Prop} {x : Result Next} {o : Oper} {a : Act} {K : Act → World → Prop} {Q : Exit → Act → World → Prop}
  (h : Res P r Φ x) (hk : ∀ v w', Φ v w' → K (a.put o.dst v) w') : o.uponIn (FW r) 0 P a K Q x := by
 cases x with
 | ok n w' =>
  cases n <;> simp only [Res] at h <;> simp only [Oper.uponIn]
  case value v => exact hk _ _ h
  case skip => exact hk _ _ h
  case enter f args =>
   exact ⟨(fun h => nomatch h), (mU h).mono fun e w'' ⟨v, he, hv⟩ => by subst he; exact hk _ _ hv⟩
  case row row args => exact ⟨(fun h => nomatch h), h.mono fun v w'' hv => hk _ _ hv⟩
  case round l f tmps assign body => exact ⟨(fun h => nomatch h), h.mono fun e w'' ⟨v, he, hv⟩ => by subst he; exact hk _ _ hv⟩
 | halt x w' => simp only [Res] at h
def q8 (o : Oper) : Bool := match o.op with
 | .defer _ => true
 | _ => false
def hF (o : Oper) : Bool := match o.op with
 | .select _ _ => true
 | _ => false
theorem zhe {o : Oper} (h : q8 o = false) : ∀ c, o.op ≠ .defer c := fun c hc => by simp [q8, hc] at h
theorem zfq {o : Oper} (h : hF o = false) : ∀ cs b, o.op ≠ .select cs b := fun c b hc => by simp [hF, hc] at h
def OpV (C : Ctx) (o : Oper) (env : Env) (L : List Assn) (K : Value → List Assn → Prop) : Prop :=
 ∀ w, St C.w0 C.M L w → Res C.P C.r (fun v w' => ∃ L', St C.w0 C.M L' w' ∧ K v L') ((execOp env.ev o).run C.P w)
theorem OpV.mono {o : Oper} {K K' : Value → List Assn → Prop} (h : OpV C o env L K) (hk : ∀ v L', K v L' → K' v L') : OpV C o env L K' :=
 fun w hw => (h w hw).mono fun _ _ ⟨L', h1, h2⟩ => ⟨L', h1, hk _ _ h2⟩
theorem OpV.sub {o : Oper} {K : Value → List Assn → Prop} {L' : List Assn} (h : OpV C o env L K) (s : Sub L L') : OpV C o env L' K := fun w hw => h w (hw.sub s)
def A3 (ops : Array Oper) (env : Env) (o : Oper) : Bool := Region.wanted o (fD ops env)
def TL (C : Ctx) (ops : Array Oper) (Q : EQ) (l : List Oper) (env : Env) (L : List Assn) : Prop :=
 ∀ a w, Fits C.n a env → St C.w0 C.M L w → wpListIn (FW C.r) 0 C.P ops (JY C Q) l a w
variable {ops : Array Oper} {o : Oper} {rest : List Oper}
theorem zi8 (h : Q .normal env L) : TL C ops Q [] env L := fun _ _ ha hw => wpListIn_nil ⟨env, L, ha, hw, h⟩
theorem lC {o : Oper} {a : Act} {w : World} {K : Act → World → Prop} {Q' : Exit → Act → World → Prop} {K' : Value → List Assn → Prop} (hnd : q8 o = false) (ha : Fits C.n a env) (hw : St C.w0 C.M L w)
  (h : OpV C o env L K') (hk : ∀ v L' w', St C.w0 C.M L' w' → K' v L' → K (a.put o.dst v) w') : o.wpIn (FW C.r) 0 C.P a w K Q' := by
 refine ⟨fun _ _ => trivial, ?_⟩
 rw [Oper.semAt_eq _ _ _ (zhe hnd), ha.ev]
 exact (h w hw).upon fun v w' ⟨L', h1, h2⟩ => hk v L' w' h1 h2
theorem BF (hg : o.guard = none) (hd : vF o.dst C.n = true) (hnd : q8 o = false)
  (h : OpV C o env L fun v L' => TL C ops Q rest (env.putO o.dst v) L') : TL C ops Q (o :: rest) env L := fun a w ha hw =>
 wpListIn_plain hg fun K hK => lC hnd ha hw h fun v L' w' h1 h2 => hK _ _ (h2 _ _ (ha.putO hd v) h1)
theorem CZ (hg : A3 ops env o = true) (hd : vF o.dst C.n = true) (hnd : q8 o = false)
  (h : OpV C o env L fun v L' => TL C ops Q rest (env.putO o.dst v) L') : TL C ops Q (o :: rest) env L := fun a w ha hw =>
 wpListIn_step fun K hK => by
  rw [nP ha, if_pos (by exact hg)]
  exact lC hnd ha hw h fun v L' w' h1 h2 => hK _ _ (h2 _ _ (ha.putO hd v) h1)
theorem zh9 (hg : A3 ops env o = false) (hd : vF o.dst C.n = true) (h : TL C ops Q rest (env.putO o.dst undef) L) : TL C ops Q (o :: rest) env L := fun a w ha hw =>
 wpListIn_step fun K hK => by
  have hg' : Region.wanted o (fD ops env) = false := hg
  rw [nP ha, hg', if_neg (by simp)]
  exact ⟨fun _ _ => trivial, hK _ _ (h _ _ (ha.putO hd _) hw)⟩
theorem c7 {id : Nat} {l : List Oper} (h : TL C l.toArray Q l env L) : TC C (.region id l.toArray false) Q env L := fun a w ha hw => wpIn_region_lit (h a w ha hw)
/-! ### a region that draws its order -/
def Cal (C : Ctx) (o : Oper) (env : Env) (v : Value) (L : List Assn) : Prop :=
 ∀ w, St C.w0 C.M L w → Res C.P C.r (fun u w' => u = v ∧ St C.w0 C.M L w') ((execOp env.ev o).run C.P w)
theorem Cal.opv {o : Oper} {v : Value} {K : Value → List Assn → Prop} (h : Cal C o env v L) (hk : K v L) : OpV C o env L K :=
 fun w hw => (h w hw).mono fun u w' ⟨hu, hs⟩ => ⟨L, hs, hu ▸ hk⟩
theorem Cal.perm {o : Oper} {v : Value} {L' : List Assn} (h : Cal C o env v L) (p : L.Perm L') : Cal C o env v L' :=
 fun w hw => (h w (hw.perm p.symm)).mono fun u w' ⟨hu, hs⟩ => ⟨hu, hs.perm p⟩
def AW (C : Ctx) (ops : Array Oper) (Q : EQ) (E : List Nat × List Nat) (F : List Assn) : Nat → Array Bool → Env → List Assn → Prop
 | 0, listed, env, X => Region.ready .any ops listed = [] ∧ Q .normal env (F ++ X)
 | n + 1, listed, env, X => (Region.ready .any ops listed = [] → Q .normal env (F ++ X)) ∧
  ∀ i ∈ Region.ready .any ops listed, ∀ o, ops[i]? = some o → vF o.dst C.n = true ∧ q8 o = false ∧
   if A3 ops env o then
    (if has E.1 i then OpV C o env (F ++ X) (fun v L' => ∃ X', Sub (F ++ X') L' ∧ AW C ops Q E F n (listed.setIfInBounds i true) (env.putO o.dst v) X')
    else if has E.2 i then OpV C o env (F ++ X) (fun v L' => ∃ X', Sub (F ++ X') L' ∧ Sub X X' ∧ AW C ops Q E F n (listed.setIfInBounds i true) (env.putO o.dst v) X')
    else ∃ v, Cal C o env v (F ++ X) ∧ AW C ops Q E F n (listed.setIfInBounds i true) (env.putO o.dst v) X)
   else AW C ops Q E F n (listed.setIfInBounds i true) (env.putO o.dst undef) X
theorem zgn {E : List Nat × List Nat} {F : List Assn} : ∀ (k : Nat) (listed : Array Bool) (env : Env) (X : List Assn), AW C ops Q E F k listed env X →
  ∀ a w, Fits C.n a env → St C.w0 C.M (F ++ X) w → wpAnyIn (FW C.r) 0 C.P .any ops (JY C Q) k listed a w := by
 intro k
 induction k with
 | zero => intro listed env X h a w ha hw; exact ⟨h.1, ⟨env, F ++ X, ha, hw, h.2⟩⟩
 | succ k ih =>
  intro listed env X h a w ha hw
  refine ⟨fun h0 => ⟨env, F ++ X, ha, hw, h.1 h0⟩, fun i hi => ?_⟩
  unfold wpOpIn
  cases ho : ops[i]? with
  | none =>
   have := (mem_ready.1 hi).2
   obtain ⟨o, ho', _⟩ := this
   rw [ho] at ho'; cases ho'
  | some o =>
   obtain ⟨hd, hnd, hop⟩ := h.2 i hi o ho
   simp only
   rw [nP ha]
   by_cases hwn : A3 ops env o = true
   ·rw [if_pos hwn] at hop
    rw [if_pos (by exact hwn)]
    have hop' : OpV C o env (F ++ X) (fun v L' => ∃ X', Sub (F ++ X') L' ∧ AW C ops Q E F k (listed.setIfInBounds i true) (env.putO o.dst v) X') := by
     by_cases he : has E.1 i = true
     ·rw [if_pos he] at hop; exact hop
     ·rw [if_neg he] at hop
      by_cases hn : has E.2 i = true
      ·rw [if_pos hn] at hop; exact hop.mono fun v L' ⟨X', h1, _, h2⟩ => ⟨X', h1, h2⟩
      rw [if_neg hn] at hop
      obtain ⟨v, h1, h2⟩ := hop
      exact h1.opv ⟨X, Sub.refl _, h2⟩
    exact lC hnd ha hw hop' fun v L' w' h1 ⟨X', hs, h2⟩ => ih _ _ _ h2 _ _ (ha.putO hd v) (h1.sub hs)
   ·rw [if_neg hwn] at hop
    rw [if_neg (by exact hwn)]
    exact ⟨fun _ _ => trivial, ih _ _ _ hop _ _ (ha.putO hd _) hw⟩
def LM (C : Ctx) (o : Oper) (env : Env) (v : Value) (F : List Assn) : Prop := ∀ X, Cal C o env v (F ++ X)
def YieldE (C : Ctx) (ops : Array Oper) (o : Oper) (env : Env) (v : Value) (F : List Assn) (G : List Assn → Prop) (H : Prop) : Prop :=
 (A3 ops env o = true ∧ H ∧ ∀ X, G X → Cal C o env v (F ++ X)) ∨ (A3 ops env o = false ∧ v = undef)
theorem zim {env : Env} {dst : Option Nat} {v : Value} {x : Operand} (h : ∀ d, dst = some d → x ≠ .tmp d) : (env.putO dst v).ev x = env.ev x := by
 cases dst with
 | none => rfl
 | some d =>
  cases x with
  | tmp t => exact L7 _ _ (fun e => h d rfl (e ▸ rfl))
  | _ => rfl
theorem fS (o : Oper) (hs : hF o = false) (env : Env) (dst : Option Nat) (v : Value) (h : ∀ d, dst = some d → d ∉ o.looksAt ops) :
  execOp (env.putO dst v).ev o = execOp env.ev o :=
 execOp_congr o (zfq hs) fun x hx => zim fun d hd hxd => h d hd (by
  subst hxd
  exact List.mem_append_left _ (List.mem_filterMap.2 ⟨.tmp d, by simpa using hx, rfl⟩))
theorem tG (o : Oper) (env : Env) (dst : Option Nat) (v : Value) (h : ∀ d, dst = some d → d ∉ o.looksAt ops) :
  A3 ops (env.putO dst v) o = A3 ops env o := by
 cases dst with
 | none => rfl
 | some d =>
  unfold A3 Region.wanted
  cases hg : o.guard with
  | none => rfl
  | some gw =>
   obtain ⟨g, want⟩ := gw
   have hy : fD ops (env.putO (some d) v) g = fD ops env g := by
    unfold fD
    cases ht : (ops[g]?).bind (·.dst) with
    | none => rfl
    | some t =>
     have hne : t ≠ d := fun e => h d rfl (by subst e; simp [Oper.looksAt, hg, ht])
     simp only [Env.putO, L7 _ _ hne]
   simp only [hy]
theorem iG (env : Env) {x y : Option Nat} (v u : Value) (h : ∀ d, x = some d → y ≠ some d) : (env.putO x v).putO y u = (env.putO y u).putO x v := by
 cases x with
 | none => rfl
 | some d =>
  cases y with
  | none => rfl
  | some e =>
   have hne : d ≠ e := fun he => h d rfl (he ▸ rfl)
   refine Env.ext' (fun t => ?_) rfl
   simp only [Env.putO]
   by_cases h1 : t = e
   ·subst h1
    rw [V8, L7 _ _ (Ne.symm hne), V8]
   ·rw [L7 _ _ h1]
    by_cases h2 : t = d
    ·subst h2; rw [V8, V8]
    ·rw [L7 _ _ h2, L7 _ _ h2, L7 _ _ h1]
theorem YieldE.put {oi : Oper} {v : Value} {F : List Assn} {G : List Assn → Prop} {H : Prop} (hs : hF oi = false) (hy : YieldE C ops oi env v F G H) {dst : Option Nat} (u : Value) (h : ∀ d, dst = some d → d ∉ oi.looksAt ops) : YieldE C ops oi (env.putO dst u) v F G H := by
 unfold YieldE Cal at *
 rw [tG oi env dst u h, fS oi hs env dst u h]
 exact hy
def kL (ops : Array Oper) : Prop := ∀ (j : Nat) (o : Oper), ops[j]? = some o → hF o = false
theorem AW.first {E : List Nat × List Nat} {F : List Assn} {i : Nat} {oi : Oper} {v : Value} {G : List Assn → Prop} (hi : ops[i]? = some oi) (hsel : kL ops) (hd : vF oi.dst C.n = true) (hnd : q8 oi = false) (hup : ∀ X Y, Sub X Y → G X → G Y)
  {S : List Nat} (hS : ∀ j ∈ S, ∀ oj, ops[j]? = some oj → ∃ e ∈ oj.after, Region.binds .any e = true ∧ (e.on = i ∨ e.on ∈ S)) :
  ∀ (k : Nat) (listed : Array Bool) (env : Env) (X : List Assn),
   (∀ j oj, ops[j]? = some oj → j ≠ i → listed.getD j true = false → (∀ e ∈ oj.after, Region.binds .any e = true → e.on ≠ i) → oi.apart ops oj = true) →
   (∀ j ∈ S, listed.getD j true = false) → (∀ j, j ≠ i → listed.getD j true = false → j ∉ S → has E.1 j = true → ∀ X, G X) → G X →
   i ∈ Region.ready .any ops listed → YieldE C ops oi env v F G (has E.1 i = false ∧ has E.2 i = false) →
   AW C ops Q E F k (listed.setIfInBounds i true) (env.putO oi.dst v) X → AW C ops Q E F (k + 1) listed env X := by
 intro k
 have own : ∀ (k : Nat) (listed : Array Bool) (env : Env) (X : List Assn), G X → YieldE C ops oi env v F G (has E.1 i = false ∧ has E.2 i = false) → AW C ops Q E F k (listed.setIfInBounds i true) (env.putO oi.dst v) X →
   vF oi.dst C.n = true ∧ q8 oi = false ∧
   if A3 ops env oi then
    (if has E.1 i then OpV C oi env (F ++ X) (fun v L' => ∃ X', Sub (F ++ X') L' ∧ AW C ops Q E F k (listed.setIfInBounds i true) (env.putO oi.dst v) X')
    else if has E.2 i then OpV C oi env (F ++ X) (fun v L' => ∃ X', Sub (F ++ X') L' ∧ Sub X X' ∧ AW C ops Q E F k (listed.setIfInBounds i true) (env.putO oi.dst v) X')
    else ∃ v, Cal C oi env v (F ++ X) ∧ AW C ops Q E F k (listed.setIfInBounds i true) (env.putO oi.dst v) X)
   else AW C ops Q E F k (listed.setIfInBounds i true) (env.putO oi.dst undef) X := by
  intro k listed env X hG hy H
  refine ⟨hd, hnd, ?_⟩
  rcases hy with ⟨hw, hE, hdet⟩ | ⟨hw, rfl⟩
  ·rw [if_pos hw, if_neg (by simp [hE.1]), if_neg (by simp [hE.2])]
   exact ⟨v, hdet X hG, H⟩
  ·rw [if_neg (by simp [hw])]
   exact H
 induction k with
 | zero =>
  intro listed env X _ _ _ hG hr hy H
  refine ⟨fun h => (by rw [h] at hr; cases hr), fun j hj o ho => ?_⟩
  by_cases hji : j = i
  ·subst hji
   obtain rfl : o = oi := by rw [hi] at ho; injection ho with e; exact e.symm
   exact own 0 listed env X hG hy H
  ·have := ready_mono hj hji
   rw [H.1] at this
   cases this
 | succ k ih =>
  intro listed env X hfree hun hcal hG hr hy H
  refine ⟨fun h => (by rw [h] at hr; cases hr), fun j hj oj hoj => ?_⟩
  by_cases hji : j = i
  ·subst hji
   obtain rfl : oj = oi := by rw [hi] at hoj; injection hoj with e; exact e.symm
   exact own _ listed env X hG hy H
  ·obtain ⟨hdj, hndj, h1⟩ := H.2 j (ready_mono hj hji) oj hoj
   obtain ⟨hjun, oj', hoj', hall⟩ := mem_ready.1 hj
   obtain rfl : oj' = oj := by rw [hoj] at hoj'; injection hoj' with e; exact e.symm
   have hnot : ∀ e ∈ oj'.after, Region.binds .any e = true → e.on ≠ i := fun e he hb heq => by
    have h1 := hall e he hb
    have h0 := (mem_ready.1 hr).1
    rw [heq] at h1
    rcases Nat.lt_or_ge i listed.size with h' | h'
    ·simp [h'] at h0 h1; rw [h0] at h1; cases h1
    ·simp [Array.getElem?_eq_none h'] at h1
   obtain ⟨a1, a2, a3⟩ := Oper.apart_spec (hfree j oj' hoj hji hjun hnot)
   have hsi := hsel i oi hi
   have hsj := hsel j oj' hoj
   have hun' : ∀ m, (listed.setIfInBounds j true).getD m true = false → listed.getD m true = false := fun m hun => by
    by_cases hjm : j = m
    ·subst hjm; exact hjun
    ·rw [getD_set_ne true hjm] at hun; exact hun
   have hfree' : ∀ m om, ops[m]? = some om → m ≠ i → (listed.setIfInBounds j true).getD m true = false →
     (∀ e ∈ om.after, Region.binds .any e = true → e.on ≠ i) → oi.apart ops om = true := fun m om hom hmi hun hno => hfree m om hom hmi (hun' m hun) hno
   have hjS : j ∉ S := fun hjS => by
    obtain ⟨e, he, hb, h2⟩ := hS j hjS oj' hoj'
    rcases h2 with h2 | h2
    ·exact hnot e he hb h2
    ·have h3 := hall e he hb
     have h4 := hun e.on h2
     rcases Nat.lt_or_ge e.on listed.size with h' | h'
     ·simp [h'] at h3 h4; rw [h4] at h3; cases h3
     ·simp [Array.getElem?_eq_none h'] at h3
   have hun2 : ∀ m ∈ S, (listed.setIfInBounds j true).getD m true = false := fun m hm => by
    have hjm : j ≠ m := fun e => hjS (by rw [e]; exact hm)
    rw [getD_set_ne true hjm]; exact hun m hm
   have hcal' : ∀ m, m ≠ i → (listed.setIfInBounds j true).getD m true = false → m ∉ S → has E.1 m = true → ∀ X, G X := fun m hmi hun hno => hcal m hmi (hun' m hun) hno
   refine ⟨hdj, hndj, ?_⟩
   rw [tG oj' env oi.dst v a1] at h1
   by_cases hwj : A3 ops env oj' = true
   ·rw [if_pos hwj] at h1 ⊢
    by_cases hej : has E.1 j = true
    ·rw [if_pos hej] at h1 ⊢
     intro w hw
     have h2 := h1 w hw
     rw [fS oj' hsj env oi.dst v a1] at h2
     refine h2.mono fun u w' ⟨L', hs, X', hsub, hA⟩ => ⟨L', hs, X', hsub, ?_⟩
     refine ih _ _ _ hfree' hun2 hcal' (hcal j hji hjun hjS hej X') (ready_mono hr (Ne.symm hji)) (hy.put hsi u a3) ?_
     rw [Array.setIfInBounds_comm _ _ hji, ← iG env v u a2]
     exact hA
    ·rw [if_neg hej] at h1 ⊢
     by_cases hnj : has E.2 j = true
     ·rw [if_pos hnj] at h1 ⊢
      intro w hw
      have h2 := h1 w hw
      rw [fS oj' hsj env oi.dst v a1] at h2
      refine h2.mono fun u w' ⟨L', hs, X', hsub, hXX, hA⟩ => ⟨L', hs, X', hsub, hXX, ?_⟩
      refine ih _ _ _ hfree' hun2 hcal' (hup X X' hXX hG) (ready_mono hr (Ne.symm hji)) (hy.put hsi u a3) ?_
      rw [Array.setIfInBounds_comm _ _ hji, ← iG env v u a2]
      exact hA
     rw [if_neg hnj] at h1 ⊢
     obtain ⟨u, hc, hA⟩ := h1
     unfold Cal at hc
     rw [fS oj' hsj env oi.dst v a1] at hc
     refine ⟨u, hc, ih _ _ _ hfree' hun2 hcal' hG (ready_mono hr (Ne.symm hji)) (hy.put hsi u a3) ?_⟩
     rw [Array.setIfInBounds_comm _ _ hji, ← iG env v u a2]
     exact hA
   ·rw [if_neg hwj] at h1 ⊢
    refine ih _ _ _ hfree' hun2 hcal' hG (ready_mono hr (Ne.symm hji)) (hy.put hsi _ a3) ?_
    rw [Array.setIfInBounds_comm _ _ hji, ← iG env v _ a2]
    exact h1
/-! #### one by one -/
def D2 (n : Nat) (dn : List Nat) : Array Bool := ((List.range n).map fun i => has dn i).toArray
theorem pC (n : Nat) (dn : List Nat) : (D2 n dn).size = n := by simp [D2]
theorem Z3 (n : Nat) (dn : List Nat) (k : Nat) : (D2 n dn).setIfInBounds k true = D2 n (k :: dn) := by
 apply Array.ext
 ·simp [D2]
 ·intro i h1 h2
  have hin : i < n := by simpa [D2] using h2
  by_cases hik : k = i
  ·subst hik
   simp [D2, has]
  ·rw [Array.getElem_setIfInBounds (by simpa [D2] using hin)]
   rw [if_neg hik]
   simp only [D2, List.getElem_toArray, List.getElem_map, List.getElem_range, has]
   cases hb : Nat.beq k i with
   | true => exact absurd (Nat.eq_of_beq_eq_true hb) hik
   | false => rfl
theorem zbl (n : Nat) : D2 n [] = Array.replicate n false := by
 apply Array.ext
 ·simp [D2]
 ·intro i h1 h2
  simp [D2, has]
def zjW (ops : Array Oper) (dn : List Nat) (k : Nat) (oi : Oper) : Bool := (List.range ops.size).all fun j =>
 Nat.beq j k || has dn j || (match ops[j]? with
  | some oj => oj.after.any (fun e => Region.binds .any e && Nat.beq e.on k) || oi.apart ops oj
  | none => true)
def S7 (dn : List Nat) (o : Oper) : Bool := o.after.all fun e => !Region.binds .any e || has dn e.on
def R0 (ops : Array Oper) (dn : List Nat) (k : Nat) : Bool := match ops[k]? with
 | some o => S7 dn o && (!has dn k && (Nat.blt dn.length ops.size && zjW ops dn k o))
 | none => false
theorem P8 {n j : Nat} {dn : List Nat} (hj : j < n) (d : Bool) : (D2 n dn).getD j d = has dn j := by
 have hs : j < (D2 n dn).size := by rw [pC]; exact hj
 rw [Array.getD_eq_getD_getElem?, Array.getElem?_eq_getElem hs, Option.getD_some]
 simp [D2]
theorem kB {j k : Nat} (h : Nat.blt j k = true) : j < k := by simpa using h
theorem JV {α : Type} {xs : Array α} {p : α → Bool} (h : xs.any p = true) : ∃ e, e ∈ xs ∧ p e = true := by
 obtain ⟨i, hi, hp⟩ := Array.any_eq_true.1 h
 exact ⟨xs[i], Array.getElem_mem hi, hp⟩
def uE (ops : Array Oper) (k : Nat) : List Nat := (List.range ops.size).foldl (fun S j =>
 if (match ops[j]? with
  | some oj => oj.after.any (fun e => Region.binds .any e && (Nat.beq e.on k || has S e.on))
  | none => false) then j :: S else S) []
def eO (ops : Array Oper) (E : List Nat × List Nat) (dn : List Nat) (k : Nat) : Bool :=
 (uE ops k).all (fun j => !has dn j && (match ops[j]? with
  | some oj => oj.after.any (fun e => Region.binds .any e && (Nat.beq e.on k || has (uE ops k) e.on))
  | none => false)) && E.1.all (fun j => Nat.beq j k || has dn j || has (uE ops k) j)
def AWk (C : Ctx) (ops : Array Oper) (Q : EQ) (E : List Nat × List Nat) (F : List Assn) (dn : List Nat) (env : Env) (X : List Assn) : Prop :=
 AW C ops Q E F (ops.size - dn.length) (D2 ops.size dn) env X
theorem kR {dn : List Nat} {k : Nat} {o : Oper} (ho : ops[k]? = some o) (hr : S7 dn o = true) (hk : has dn k = false) (hlt : ∀ e ∈ o.after, Region.binds .any e = true → e.on < ops.size) : k ∈ Region.ready .any ops (D2 ops.size dn) := by
 have hkn : k < ops.size := (Array.getElem?_eq_some_iff.1 ho).1
 refine mem_ready.2 ⟨by rw [P8 hkn]; exact hk, o, ho, fun e he hb => ?_⟩
 have := (Array.all_eq_true_iff_forall_mem.1 hr) e he
 simp only [hb, Bool.not_true, Bool.false_or] at this
 rw [P8 (hlt e he hb)]
 exact this
def F4 (ops : Array Oper) (o : Oper) : Bool := o.after.all fun e => Nat.blt e.on ops.size
theorem iP {o : Oper} (h : F4 ops o = true) : ∀ e ∈ o.after, Region.binds .any e = true → e.on < ops.size := fun e he _ =>
 kB ((Array.all_eq_true_iff_forall_mem.1 h) e he)
theorem CO {E : List Nat × List Nat} {F X : List Assn} {dn : List Nat} {k : Nat} {o : Oper} {v : Value} {G : List Assn → Prop} (ho : ops[k]? = some o) (hk : (R0 ops dn k && F4 ops o) = true) (hsel : kL ops) (hd : vF o.dst C.n = true) (hnd : q8 o = false)
  (hup : ∀ X Y, Sub X Y → G X → G Y) (hc : eO ops E dn k = true ∨ ∀ X, G X) (hG : G X) (hy : YieldE C ops o env v F G (has E.1 k = false ∧ has E.2 k = false)) (h : AWk C ops Q E F (k :: dn) (env.putO o.dst v) X) : AWk C ops Q E F dn env X := by
 have hlt : k < ops.size := (Array.getElem?_eq_some_iff.1 ho).1
 simp only [R0, ho, Bool.and_eq_true] at hk
 obtain ⟨⟨hr, hnk, hbl, hf⟩, hwi⟩ := hk
 have hnk' : has dn k = false := by simpa using hnk
 have hln := kB hbl
 have h1 : AW C ops Q E F (ops.size - (dn.length + 1)) (D2 ops.size (k :: dn)) (env.putO o.dst v) X := h
 have e : ops.size - dn.length = (ops.size - (dn.length + 1)) + 1 := by omega
 show AW C ops Q E F (ops.size - dn.length) (D2 ops.size dn) env X
 rw [e]
 have hrd := kR ho hr hnk' (iP hwi)
 have hmain : ∀ (S : List Nat), (∀ j ∈ S, has dn j = false) → (∀ j ∈ S, ∀ oj, ops[j]? = some oj → ∃ e ∈ oj.after, Region.binds .any e = true ∧ (e.on = k ∨ e.on ∈ S)) → (∀ j ∈ S, j < ops.size) →
   (∀ j, j ≠ k → has dn j = false → j ∉ S → has E.1 j = true → ∀ X, G X) → AW C ops Q E F ((ops.size - (dn.length + 1)) + 1) (D2 ops.size dn) env X := fun S hS1 hS2 hS3 hS4 => by
  refine AW.first (G := G) ho hsel hd hnd hup hS2 _ _ _ _ (fun j oj hoj hji hun hno => ?_) (fun j hj => ?_) (fun j hji hun hjS hej X' => ?_) hG hrd hy (by rw [Z3]; exact h1)
  ·have hjn : j < ops.size := (Array.getElem?_eq_some_iff.1 hoj).1
   have hj := (List.all_eq_true.1 hf) j (List.mem_range.2 hjn)
   rw [P8 hjn] at hun
   simp only [hun, Bool.or_false, Bool.or_eq_true, hoj] at hj
   rcases hj with hj | hj
   ·exact absurd (Nat.eq_of_beq_eq_true hj) hji
   ·rcases hj with hj | hj
    ·obtain ⟨e, he, hb⟩ := JV hj
     simp only [Bool.and_eq_true] at hb
     exact absurd (Nat.eq_of_beq_eq_true hb.2) (hno e he hb.1)
    ·exact hj
  ·rw [P8 (hS3 j hj)]
   exact hS1 j hj
  ·rcases Nat.lt_or_ge j ops.size with hjn | hjn
   ·rw [P8 hjn] at hun
    exact hS4 j hji hun hjS hej X'
   ·rw [Array.getD_eq_getD_getElem?, Array.getElem?_eq_none (by rw [pC]; exact hjn)] at hun
    cases hun
 rcases hc with hc | hc
 ·simp only [eO, Bool.and_eq_true] at hc
  obtain ⟨hc1, hc2⟩ := hc
  refine hmain (uE ops k) (fun j hj => ?_) (fun j hj oj hoj => ?_) (fun j hj => ?_) (fun j hji hkj hjS hej => ?_)
  ·have := (List.all_eq_true.1 hc1) j hj
   simp only [Bool.and_eq_true] at this
   simpa using this.1
  ·have := (List.all_eq_true.1 hc1) j hj
   simp only [Bool.and_eq_true, hoj] at this
   obtain ⟨e, he, hb⟩ := JV this.2
   simp only [Bool.and_eq_true, Bool.or_eq_true] at hb
   exact ⟨e, he, hb.1, hb.2.imp Nat.eq_of_beq_eq_true oO⟩
  ·have := (List.all_eq_true.1 hc1) j hj
   simp only [Bool.and_eq_true] at this
   rcases Nat.lt_or_ge j ops.size with h' | h'
   ·exact h'
   ·rw [Array.getElem?_eq_none h'] at this
    exact absurd this.2 (by simp)
  ·have := (List.all_eq_true.1 hc2) j (oO hej)
   simp only [Bool.or_eq_true] at this
   rcases this with (h' | h') | h'
   ·exact absurd (Nat.eq_of_beq_eq_true h') hji
   ·rw [hkj] at h'; cases h'
   ·exact absurd (oO h') hjS
 ·exact hmain [] (fun _ h => nomatch h) (fun _ h => nomatch h) (fun _ h => nomatch h) (fun _ _ _ _ _ => hc)
theorem AWk.det {E : List Nat × List Nat} {F X : List Assn} {dn : List Nat} {k : Nat} {o : Oper} {v : Value} (ho : ops[k]? = some o) (hk : (R0 ops dn k && F4 ops o) = true) (hsel : kL ops) (hd : vF o.dst C.n = true) (hnd : q8 o = false)
  (hy : A3 ops env o = true ∧ (has E.1 k = false ∧ has E.2 k = false) ∧ LM C o env v F ∨ A3 ops env o = false ∧ v = undef) (h : AWk C ops Q E F (k :: dn) (env.putO o.dst v) X) : AWk C ops Q E F dn env X :=
 CO (G := fun _ => True) ho hk hsel hd hnd (fun _ _ _ _ => trivial) (.inr fun _ => trivial) trivial (hy.imp (fun ⟨h1, h3, h2⟩ => ⟨h1, h3, fun X _ => h2 X⟩) id) h
theorem nR {E : List Nat × List Nat} {F X : List Assn} {dn : List Nat} {k : Nat} {o : Oper} {v : Value} (ho : ops[k]? = some o) (hk : (R0 ops dn k && F4 ops o) = true) (hsel : kL ops) (hd : vF o.dst C.n = true) (hnd : q8 o = false) (hE : has E.1 k = false ∧ has E.2 k = false)
  (hc : eO ops E dn k = true) (hw : A3 ops env o = true) (hy : ∀ Y, Sub X Y → Cal C o env v (F ++ Y)) (h : AWk C ops Q E F (k :: dn) (env.putO o.dst v) X) : AWk C ops Q E F dn env X :=
 CO (G := fun Y => Sub X Y) ho hk hsel hd hnd (fun _ _ h1 h2 => h2.trans h1) (.inl hc) (Sub.refl _) (.inl ⟨hw, hE, hy⟩) h
def bH (ops : Array Oper) (dn : List Nat) (k : Nat) : Bool := !has dn k && (Nat.blt dn.length ops.size && (List.range ops.size).all fun j =>
 Nat.beq j k || has dn j || (match ops[j]? with
  | some oj => oj.after.any (fun e => Region.binds .any e && (Nat.blt e.on ops.size && !has dn e.on))
  | none => true))
theorem wH {dn : List Nat} {k : Nat} (h : bH ops dn k = true) : ∀ i ∈ Region.ready .any ops (D2 ops.size dn), i = k := by
 intro i hi
 simp only [bH, Bool.and_eq_true] at h
 obtain ⟨h0, o, ho, hall⟩ := mem_ready.1 hi
 have hin : i < ops.size := (Array.getElem?_eq_some_iff.1 ho).1
 have h1 := (List.all_eq_true.1 h.2.2) i (List.mem_range.2 hin)
 rw [P8 hin] at h0
 simp only [h0, Bool.or_false, ho, Bool.or_eq_true] at h1
 rcases h1 with h1 | h1
 ·exact Nat.eq_of_beq_eq_true h1
 ·obtain ⟨e, he, hb⟩ := JV h1
  simp only [Bool.and_eq_true] at hb
  have h2 := hall e he hb.1
  rw [P8 (kB hb.2.1)] at h2
  have h3 := hb.2.2
  rw [h2] at h3
  cases h3
theorem zgo {E : List Nat × List Nat} {F X : List Assn} {dn : List Nat} {k : Nat} {o : Oper} (ho : ops[k]? = some o) (hE : has E.1 k = true) (hk : bH ops dn k = true) (hr : (S7 dn o && F4 ops o) = true) (hd : vF o.dst C.n = true) (hnd : q8 o = false)
  (hw : A3 ops env o = true)
  (h : OpV C o env (F ++ X) fun v L' => ∃ X', Sub (F ++ X') L' ∧ AWk C ops Q E F (k :: dn) (env.putO o.dst v) X') : AWk C ops Q E F dn env X := by
 have hk0 := hk
 simp only [bH, Bool.and_eq_true] at hk0
 simp only [Bool.and_eq_true] at hr
 have hln := kB hk0.2.1
 have e : ops.size - dn.length = (ops.size - (dn.length + 1)) + 1 := by omega
 have hmem := kR ho hr.1 (by simpa using hk0.1) (iP hr.2)
 show AW C ops Q E F (ops.size - dn.length) (D2 ops.size dn) env X
 rw [e]
 refine ⟨(fun h0 => absurd (h0 ▸ hmem) (by simp)), fun i hi o' ho' => ?_⟩
 obtain rfl := wH hk i hi
 obtain rfl : o' = o := by rw [ho] at ho'; injection ho' with e; exact e.symm
 refine ⟨hd, hnd, ?_⟩
 rw [if_pos hw, if_pos hE]
 exact h.mono fun v L' ⟨X', hs, hA⟩ => ⟨X', hs, by rw [Z3]; exact hA⟩
theorem uG {E : List Nat × List Nat} {F X : List Assn} {dn : List Nat} {k : Nat} {o : Oper} (ho : ops[k]? = some o) (hE1 : has E.1 k = false) (hE : has E.2 k = true) (hk : bH ops dn k = true) (hr : (S7 dn o && F4 ops o) = true) (hd : vF o.dst C.n = true) (hnd : q8 o = false)
  (hw : A3 ops env o = true)
  (h : OpV C o env (F ++ X) fun v L' => ∃ X', Sub (F ++ X') L' ∧ Sub X X' ∧ AWk C ops Q E F (k :: dn) (env.putO o.dst v) X') : AWk C ops Q E F dn env X := by
 have hk0 := hk
 simp only [bH, Bool.and_eq_true] at hk0
 simp only [Bool.and_eq_true] at hr
 have hln := kB hk0.2.1
 have e : ops.size - dn.length = (ops.size - (dn.length + 1)) + 1 := by omega
 have hmem := kR ho hr.1 (by simpa using hk0.1) (iP hr.2)
 show AW C ops Q E F (ops.size - dn.length) (D2 ops.size dn) env X
 rw [e]
 refine ⟨(fun h0 => absurd (h0 ▸ hmem) (by simp)), fun i hi o' ho' => ?_⟩
 obtain rfl := wH hk i hi
 obtain rfl : o' = o := by rw [ho] at ho'; injection ho' with e; exact e.symm
 refine ⟨hd, hnd, ?_⟩
 rw [if_pos hw, if_neg (by simp [hE1]), if_pos hE]
 exact h.mono fun v L' ⟨X', hs, hXX, hA⟩ => ⟨X', hs, hXX, by rw [Z3]; exact hA⟩
theorem AW.perm {E : List Nat × List Nat} {F : List Assn} : ∀ (k : Nat) (listed : Array Bool) (env : Env) (X Y : List Assn), X.Perm Y → AW C ops Q E F k listed env X → (∀ env, ∀ X Y : List Assn, X.Perm Y → Q .normal env X → Q .normal env Y) → AW C ops Q E F k listed env Y
 | 0, listed, env, X, Y, p, h, hq => ⟨h.1, hq _ _ _ (p.append_left F) h.2⟩
 | k + 1, listed, env, X, Y, p, h, hq => by
  refine ⟨fun h0 => hq _ _ _ (p.append_left F) (h.1 h0), fun i hi o ho => ?_⟩
  obtain ⟨h1, h2, h3⟩ := h.2 i hi o ho
  refine ⟨h1, h2, ?_⟩
  by_cases hw : A3 ops env o = true
  ·rw [if_pos hw] at h3 ⊢
   by_cases he : has E.1 i = true
   ·rw [if_pos he] at h3 ⊢
    exact h3.sub (e5 (p.append_left F).symm)
   ·rw [if_neg he] at h3 ⊢
    by_cases hn : has E.2 i = true
    ·rw [if_pos hn] at h3 ⊢
     exact (h3.sub (e5 (p.append_left F).symm)).mono fun v L' ⟨X', a1, a2, a3⟩ => ⟨X', a1, (e5 p).trans a2, a3⟩
    ·rw [if_neg hn] at h3 ⊢
     obtain ⟨v, a1, a2⟩ := h3
     exact ⟨v, a1.perm (p.append_left F), AW.perm k _ _ X Y p a2 hq⟩
  ·rw [if_neg hw] at h3 ⊢
   exact AW.perm k _ _ X Y p h3 hq
theorem zbk (n : Nat) (dn : List Nat) (a b : Nat) : D2 n (a :: b :: dn) = D2 n (b :: a :: dn) := by
 unfold D2
 congr 1
 apply List.map_congr_left
 intro i _
 simp only [has]
 cases Nat.beq a i <;> cases Nat.beq b i <;> rfl
def jE (ops : Array Oper) (dn : List Nat) (k1 k2 : Nat) : Bool := Nat.blt dn.length ops.size && (List.range ops.size).all fun j =>
 Nat.beq j k1 || Nat.beq j k2 || has dn j || (match ops[j]? with
  | some oj => oj.after.any (fun e => Region.binds .any e && (Nat.blt e.on ops.size && !has dn e.on))
  | none => true)
theorem sK {dn : List Nat} {k1 k2 : Nat} (h : jE ops dn k1 k2 = true) : ∀ i ∈ Region.ready .any ops (D2 ops.size dn), i = k1 ∨ i = k2 := by
 intro i hi
 simp only [jE, Bool.and_eq_true] at h
 obtain ⟨h0, o, ho, hall⟩ := mem_ready.1 hi
 have hin : i < ops.size := (Array.getElem?_eq_some_iff.1 ho).1
 have h1 := (List.all_eq_true.1 h.2) i (List.mem_range.2 hin)
 rw [P8 hin] at h0
 simp only [h0, Bool.or_false, ho, Bool.or_eq_true] at h1
 rcases h1 with (h1 | h1) | h1
 ·exact .inl (Nat.eq_of_beq_eq_true h1)
 ·exact .inr (Nat.eq_of_beq_eq_true h1)
 ·obtain ⟨e, he, hb⟩ := JV h1
  simp only [Bool.and_eq_true] at hb
  have h2 := hall e he hb.1
  rw [P8 (kB hb.2.1)] at h2
  have h3 := hb.2.2
  rw [h2] at h3
  cases h3
def News (C : Ctx) (o : Oper) (env : Env) (N : Value → List Assn → Prop) : Prop :=
 ∀ (L : List Assn) (K : Value → List Assn → Prop), (∀ v new, N v new → K v (new ++ L)) → OpV C o env L K
theorem zhX {E : List Nat × List Nat} {F X : List Assn} {dn : List Nat} {k1 k2 : Nat} {o1 o2 : Oper} {N1 N2 : Value → List Assn → Prop} (ho1 : ops[k1]? = some o1) (ho2 : ops[k2]? = some o2)
  (hq : ∀ env, ∀ X Y : List Assn, X.Perm Y → Q .normal env X → Q .normal env Y)
  (hk : jE ops dn k1 k2 = true) (hk1 : bH ops (k1 :: dn) k2 = true) (hk2 : bH ops (k2 :: dn) k1 = true) (hr1 : (S7 (k2 :: dn) o1 && F4 ops o1) = true) (hr2 : (S7 (k1 :: dn) o2 && F4 ops o2) = true)
  (hr : (S7 dn o1 && (!has dn k1)) = true)
  (hd1 : vF o1.dst C.n = true) (hd2 : vF o2.dst C.n = true) (hnd1 : q8 o1 = false) (hnd2 : q8 o2 = false) (hw1 : ∀ env, A3 ops env o1 = true) (hw2 : ∀ env, A3 ops env o2 = true)
  (hne : ∀ d, o1.dst = some d → o2.dst ≠ some d) (hE1 : has E.1 k1 = false ∧ has E.2 k1 = true) (hE2 : has E.1 k2 = false ∧ has E.2 k2 = true)
  (hN1 : ∀ env, News C o1 env N1) (hN2 : ∀ env, News C o2 env N2)
  (h : ∀ v1 n1 v2 n2, N1 v1 n1 → N2 v2 n2 → AWk C ops Q E F (k2 :: k1 :: dn) ((env.putO o1.dst v1).putO o2.dst v2) (n2 ++ (n1 ++ X))) : AWk C ops Q E F dn env X := by
 have hk0 := hk
 simp only [jE, Bool.and_eq_true] at hk0
 have hln := kB hk0.1
 have e : ops.size - dn.length = (ops.size - (dn.length + 1)) + 1 := by omega
 simp only [Bool.and_eq_true] at hr hr1
 have hmem := kR ho1 hr.1 (by simpa using hr.2) (iP hr1.2)
 show AW C ops Q E F (ops.size - dn.length) (D2 ops.size dn) env X
 rw [e]
 have fr : ∀ (n : List Assn), (n ++ (F ++ X)).Perm (F ++ (n ++ X)) := fun n => List.perm_append_comm_assoc n F X
 have fr2 : ∀ (n m : List Assn), (n ++ (F ++ (m ++ X))).Perm (F ++ (n ++ (m ++ X))) := fun n m => List.perm_append_comm_assoc n F (m ++ X)
 refine ⟨(fun h0 => absurd (h0 ▸ hmem) (by simp)), fun i hi o' ho' => ?_⟩
 rcases sK hk i hi with rfl | rfl
 ·obtain rfl : o' = o1 := by rw [ho1] at ho'; injection ho' with e; exact e.symm
  refine ⟨hd1, hnd1, ?_⟩
  rw [if_pos (hw1 _), if_neg (by simp [hE1.1]), if_pos hE1.2]
  refine hN1 env (F ++ X) _ fun v1 n1 hv1 => ⟨n1 ++ X, e5 (fr n1), ⟨n1, List.perm_append_comm⟩, ?_⟩
  rw [Z3]
  have h2 : AWk C ops Q E F (i :: dn) (env.putO o'.dst v1) (n1 ++ X) := by
   refine uG ho2 hE2.1 hE2.2 hk1 hr2 hd2 hnd2 (hw2 _) (hN2 _ _ _ fun v2 n2 hv2 => ⟨n2 ++ (n1 ++ X), e5 (fr2 n2 n1), ⟨n2, List.perm_append_comm⟩, h v1 n1 v2 n2 hv1 hv2⟩)
  exact h2
 ·obtain rfl : o' = o2 := by rw [ho2] at ho'; injection ho' with e; exact e.symm
  refine ⟨hd2, hnd2, ?_⟩
  rw [if_pos (hw2 _), if_neg (by simp [hE2.1]), if_pos hE2.2]
  refine hN2 env (F ++ X) _ fun v2 n2 hv2 => ⟨n2 ++ X, e5 (fr n2), ⟨n2, List.perm_append_comm⟩, ?_⟩
  rw [Z3]
  have h2 : AWk C ops Q E F (i :: dn) (env.putO o'.dst v2) (n2 ++ X) := by
   refine uG ho1 hE1.1 hE1.2 hk2 (by simp only [Bool.and_eq_true]; exact hr1) hd1 hnd1 (hw1 _) (hN1 _ _ _ fun v1 n1 hv1 => ⟨n1 ++ (n2 ++ X), e5 (fr2 n1 n2), ⟨n1, List.perm_append_comm⟩, ?_⟩)
   have h3 := h v1 n1 v2 n2 hv1 hv2
   have h4 : AW C ops Q E F (ops.size - (dn.length + 1 + 1)) (D2 ops.size (i :: k1 :: dn)) ((env.putO o1.dst v1).putO o'.dst v2) (n2 ++ (n1 ++ X)) := h3
   show AW C ops Q E F (ops.size - (dn.length + 1 + 1)) (D2 ops.size (k1 :: i :: dn)) ((env.putO o'.dst v2).putO o1.dst v1) (n1 ++ (n2 ++ X))
   rw [zbk, ← iG env v1 v2 hne]
   refine AW.perm _ _ _ _ _ ?_ h4 hq
   exact List.perm_append_comm_assoc n2 n1 X
  exact h2
def JU (ops : Array Oper) (dn : List Nat) : Bool := Nat.beq ops.size dn.length && (List.range ops.size).all fun j => has dn j
theorem AWk.done {E : List Nat × List Nat} {F X : List Assn} {dn : List Nat} (hk : JU ops dn = true) (h : Q .normal env (F ++ X)) : AWk C ops Q E F dn env X := by
 simp only [JU, Bool.and_eq_true] at hk
 show AW C ops Q E F (ops.size - dn.length) (D2 ops.size dn) env X
 rw [← Nat.eq_of_beq_eq_true hk.1, Nat.sub_self]
 refine ⟨?_, h⟩
 cases hr : Region.ready .any ops (D2 ops.size dn) with
 | nil => rfl
 | cons i l =>
  have hi : i ∈ Region.ready .any ops (D2 ops.size dn) := by rw [hr]; exact List.mem_cons_self ..
  obtain ⟨h0, o, ho, _⟩ := mem_ready.1 hi
  have hin : i < ops.size := (Array.getElem?_eq_some_iff.1 ho).1
  rw [P8 hin, (List.all_eq_true.1 hk.2) i (List.mem_range.2 hin)] at h0
  cases h0
def H6 (ops : Array Oper) : Bool := ops.all fun o => !hF o
theorem V0 (h : H6 ops = true) : kL ops := fun j o ho => by
 have hm : o ∈ ops := Array.mem_of_getElem? ho
 have := (Array.all_eq_true_iff_forall_mem.1 h) o hm
 simpa using this
theorem St.same {w0 w w' : World} {M : List Nat} (h : St w0 M L w) (h1 : w'.os = w.os) (h2 : w'.tape = w.tape) (h3 : w'.output = w.output) (h4 : w'.heap = w.heap) : St w0 M L w' :=
 ⟨h1.trans h.os, h2.trans h.tape, h3.trans h.output, h4 ▸ h.size, h4 ▸ h.block,
  ⟨fun A hA => A.stable w w' (fun b _ => by rw [h4]) (h.sat.ok A hA), h4 ▸ h.sat.lt, h.sat.nodup⟩, h.own⟩
theorem zh4 {id : Nat} {E : List Nat × List Nat} (F X : List Assn) (hm : C.P.follows .mixedOrders = true) (hL : Sub (F ++ X) L) (h : AWk C ops Q E F [] env X) : TC C (.region id ops true) Q env L := fun a w ha hw =>
 wpIn_region_any hm (by
  have h1 : AW C ops Q E F (ops.size - 0) (D2 ops.size []) env X := h
  rw [Nat.sub_zero, zbl] at h1
  exact zgn _ _ _ _ h1 _ _ ha ((hw.sub hL).same rfl rfl rfl rfl))
end Go.E
namespace Go.E
variable {C : Ctx} {Q : EQ} {env : Env} {L : List Assn} {ops : Array Oper} {rest : List Oper}
def Qt (C : Ctx) (L : List Assn) (o : Oper) (env : Env) (v : Value) : Prop :=
 ∀ w, St C.w0 C.M L w → (execOp env.ev o).run C.P w = .ok (.value v) w
theorem Qt.opv {o : Oper} {v : Value} {K : Value → List Assn → Prop} (h : Qt C L o env v) (hk : K v L) : OpV C o env L K := fun w hw => by
 rw [h w hw]
 exact ⟨L, hw, hk⟩
theorem Qt.cal {o : Oper} {v : Value} (h : Qt C L o env v) : Cal C o env v L := fun w hw => by
 rw [h w hw]
 exact ⟨rfl, hw⟩
theorem Qt.wk {o : Oper} {v : Value} {L' : List Assn} (h : Qt C L o env v) (s : Sub L L') : Qt C L' o env v := fun w hw => h w (hw.sub s)
theorem Qt.det {o : Oper} {v : Value} (h : Qt C L o env v) : LM C o env v L := fun X w hw => by
 rw [h w hw.left]
 exact ⟨rfl, hw⟩
theorem KP {o : Oper} {v : Value} (hg : o.guard = none) (hd : vF o.dst C.n = true) (hnd : q8 o = false) (h : Qt C L o env v)
  (k : TL C ops Q rest (env.putO o.dst v) L) : TL C ops Q (o :: rest) env L := BF hg hd hnd (h.opv k)
theorem IQ {o : Oper} {v : Value} (hg : A3 ops env o = true) (hd : vF o.dst C.n = true) (hnd : q8 o = false) (h : Qt C L o env v)
  (k : TL C ops Q rest (env.putO o.dst v) L) : TL C ops Q (o :: rest) env L := CZ hg hd hnd (h.opv k)
theorem AWk.q {E : List Nat × List Nat} {F X : List Assn} {dn : List Nat} {k : Nat} {o : Oper} {v : Value} (ho : ops[k]? = some o) (hk : (R0 ops dn k && F4 ops o) = true) (hsel : H6 ops = true) (hd : vF o.dst C.n = true) (hnd : q8 o = false) (hE : has E.1 k = false ∧ has E.2 k = false)
  (hw : A3 ops env o = true) (hy : Qt C F o env v) (h : AWk C ops Q E F (k :: dn) (env.putO o.dst v) X) : AWk C ops Q E F dn env X :=
 AWk.det ho hk (V0 hsel) hd hnd (.inl ⟨hw, hE, hy.det⟩) h
theorem AWk.pass {E : List Nat × List Nat} {F X : List Assn} {dn : List Nat} {k : Nat} {o : Oper} (ho : ops[k]? = some o) (hk : (R0 ops dn k && F4 ops o) = true) (hsel : H6 ops = true) (hd : vF o.dst C.n = true) (hnd : q8 o = false)
  (hw : A3 ops env o = false) (h : AWk C ops Q E F (k :: dn) (env.putO o.dst undef) X) : AWk C ops Q E F dn env X :=
 AWk.det ho hk (V0 hsel) hd hnd (.inr ⟨hw, rfl⟩) h
section ops
variable {dst : Option Tmp} {ty : TypeId} {po : String} {af : Array Edge} {gj : Option (Nat × Bool)} {x y z : Operand} {v : Value}
theorem m8 (hx : env.ev x = v) : Qt C L ⟨dst, .move x, ty, po, af, gj⟩ env v := fun w _ => by simp [execOp, hx]
theorem G9 (hx : env.ev x = v) : Qt C L ⟨dst, .assign x, ty, po, af, gj⟩ env v := fun w _ => by simp [execOp, hx]
theorem gT (hc : env.ev x = .bool true) (hy : env.ev y = v) : Qt C L ⟨dst, .pick x y z, ty, po, af, gj⟩ env v := fun w _ => by simp [execOp, hc, hy, asBool]
theorem X7 (hc : env.ev x = .bool false) (hy : env.ev z = v) : Qt C L ⟨dst, .pick x y z, ty, po, af, gj⟩ env v := fun w _ => by simp [execOp, hc, hy, asBool]
theorem s8 {vs : Array Value} {i : Nat} (hx : env.ev x = .tuple vs) (hv : vs[i]? = some v) : Qt C L ⟨dst, .extract x i, ty, po, af, gj⟩ env v := fun w _ => by
 simp [execOp, hx, Instr.extract, hv]
theorem pV {b : Bool} (hx : env.ev x = .bool b) {t : TypeId} : Qt C L ⟨dst, .unOp .not t x, ty, po, af, gj⟩ env (.bool (!b)) := fun w _ => by simp [execOp, hx, Op.unary]
theorem zag {t : TypeId} {d : TypeDesc} (ht : C.P.underlying t = some d) (hd : ∀ ms, d ≠ .interface ms) (hx : env.ev x = v) : Qt C L ⟨dst, .makeInterface t x, ty, po, af, gj⟩ env (.iface t v) := fun w _ => by
 cases d <;> simp [execOp, hx, Instr.makeInterface, run_underlying ht]
 exact absurd rfl (hd _)
theorem H8 {a : Addr} (hx : env.ev x = .pointer (some a)) : Qt C L ⟨dst, .nilCheck x, ty, po, af, gj⟩ env (.pointer (some a)) := fun w _ => by simp [execOp, hx]
theorem D6 {t e : TypeId} {A : y8} {n c : Nat} (ht : C.P.underlying t = some (.slice e)) (hx : env.ev x = .slice A n c) :
  Qt C L ⟨dst, .call { callee := .builtin .len, args := #[x], argTypes := #[t] }, ty, po, af, gj⟩ env (.int .i64 (n : Int)) := fun w _ => by
 simp [execOp, resolve, invoke, builtin, hx, Builtin.len_, run_underlying ht, goInt]
/-! ints -/
def H1 : IntKind → Nat
 | .i8 => 127 | .i16 => 32767 | .i32 => 2147483647 | .i64 => 9223372036854775807
 | .u8 => 255 | .u16 => 65535 | .u32 => 4294967295 | .u64 => 18446744073709551615
theorem aT {k : IntKind} {n : Nat} (h : n ≤ H1 k) : k.wrap (n : Int) = (n : Int) := by
 cases k <;> simp only [H1] at h
 ·exact IntWalk.i8_in _ ow
 ·exact IntWalk.i16_in _ ow
 ·exact IntWalk.i32_in _ ow
 ·exact IntWalk.i64_in _ ow
 ·exact IntWalk.u8_in _ ow
 ·exact IntWalk.u16_in _ ow
 ·exact IntWalk.u32_in _ ow
 ·exact IntWalk.u64_in _ ow
def yE : IntKind → Nat
 | .u8 => 256 | .u16 => 65536 | .u32 => 4294967296 | .u64 => 18446744073709551616 | _ => 0
theorem mC {k : IntKind} (n : Nat) (h : k.signed = false) : k.wrap (n : Int) = ((n % yE k : Nat) : Int) := by
 cases k <;> simp [IntKind.signed] at h <;> simp [IntKind.wrap, IntKind.signed, IntKind.bits, yE]
variable {t ty2 : TypeId} {k : IntKind} {a b : Nat} {m n : Int}
theorem G4 {o : Oper} {op : BinOp} (ho : o.op = .binOp op t x y ty2) (hx : env.ev x = .int k m) (hy : env.ev y = .int k n) {P : Program} {w : World} {r : Value}
  (hr : (binOp op t (.int k m) (.int k n)).run P w = .ok r w) : (execOp env.ev o).run P w = .ok (.value r) w := by
 have he : (eqGuard op t x y (.int k m) (.int k n)).run P w = .ok () w := by
  unfold eqGuard; split <;> simp
 simp [execOp, ho, hx, hy, he, hr]
theorem v4 (hx : env.ev x = .int k (a : Int)) (hy : env.ev y = .int k (b : Int)) (h : a + b ≤ H1 k) :
  Qt C L ⟨dst, .binOp .add t x y ty2, ty, po, af, gj⟩ env (.int k ((a + b : Nat) : Int)) := fun w _ =>
 G4 rfl hx hy (by simp only [binOp, Op.intArith, ← Int.natCast_add, aT h]; simp)
theorem zhZ (hx : env.ev x = .int k (a : Int)) (hy : env.ev y = .int k (b : Int)) (hk : k.signed = false) :
  Qt C L ⟨dst, .binOp .add t x y ty2, ty, po, af, gj⟩ env (.int k (((a + b) % yE k : Nat) : Int)) := fun w _ =>
 G4 rfl hx hy (by simp only [binOp, Op.intArith, ← Int.natCast_add, mC _ hk]; simp)
theorem iS (hx : env.ev x = .int k m) (hy : env.ev y = .int k n) (h : k.wrap (m + n) = m + n) :
  Qt C L ⟨dst, .binOp .add t x y ty2, ty, po, af, gj⟩ env (.int k (m + n)) := fun w _ =>
 G4 rfl hx hy (by simp only [binOp, Op.intArith, h]; simp)
theorem o7 (hx : env.ev x = .int k (a : Int)) (hy : env.ev y = .int k (b : Int)) (h : b ≤ a) (ha : a ≤ H1 k) :
  Qt C L ⟨dst, .binOp .sub t x y ty2, ty, po, af, gj⟩ env (.int k ((a - b : Nat) : Int)) := fun w _ =>
 G4 rfl hx hy (by simp only [binOp, Op.intArith, ← Int.ofNat_sub h, aT (show a - b ≤ H1 k by omega)]; simp)
theorem cM (hx : env.ev x = .int k m) (hy : env.ev y = .int k n) (h : k.wrap (m - n) = m - n) :
  Qt C L ⟨dst, .binOp .sub t x y ty2, ty, po, af, gj⟩ env (.int k (m - n)) := fun w _ =>
 G4 rfl hx hy (by simp only [binOp, Op.intArith, h]; simp)
theorem F3 (hx : env.ev x = .int k (a : Int)) (hy : env.ev y = .int k (b : Int)) (h : a * b ≤ H1 k) :
  Qt C L ⟨dst, .binOp .mul t x y ty2, ty, po, af, gj⟩ env (.int k ((a * b : Nat) : Int)) := fun w _ =>
 G4 rfl hx hy (by simp only [binOp, Op.intArith, ← Int.natCast_mul, aT h]; simp)
theorem zh1 (hx : env.ev x = .int k (a : Int)) (hy : env.ev y = .int k (b : Int)) (hk : k.signed = false) :
  Qt C L ⟨dst, .binOp .mul t x y ty2, ty, po, af, gj⟩ env (.int k (((a * b) % yE k : Nat) : Int)) := fun w _ =>
 G4 rfl hx hy (by simp only [binOp, Op.intArith, ← Int.natCast_mul, mC _ hk]; simp)
theorem I2 (hx : env.ev x = .int k (a : Int)) (hy : env.ev y = .int k (b : Int)) (h : 0 < b) (ha : a ≤ H1 k) :
  Qt C L ⟨dst, .binOp .quo t x y ty2, ty, po, af, gj⟩ env (.int k ((a / b : Nat) : Int)) := fun w _ =>
 G4 rfl hx hy (by
  have h0 : ((b : Nat) : Int) ≠ 0 := by omega
  have h1 : (a : Int).tdiv (b : Int) = ((a / b : Nat) : Int) := rfl
  simp only [binOp, Op.intDiv, h1, aT (show a / b ≤ H1 k from Nat.le_trans (Nat.div_le_self _ _) ha), if_neg h0]; simp)
theorem V9 (hx : env.ev x = .int k (a : Int)) (hy : env.ev y = .int k (b : Int)) (h : 0 < b) :
  Qt C L ⟨dst, .binOp .rem t x y ty2, ty, po, af, gj⟩ env (.int k ((a % b : Nat) : Int)) := fun w _ =>
 G4 rfl hx hy (by
  have h0 : ((b : Nat) : Int) ≠ 0 := by omega
  have h1 : (a : Int).tmod (b : Int) = ((a % b : Nat) : Int) := rfl
  simp only [binOp, Op.intDiv, h1, if_neg h0]; simp)
theorem p9 (hx : env.ev x = .int k (a : Int)) (hy : env.ev y = .int k (b : Int)) : Qt C L ⟨dst, .binOp .lss t x y ty2, ty, po, af, gj⟩ env (.bool (decide (a < b))) := fun w _ =>
 G4 rfl hx hy (by simp [binOp, Op.intCmp])
theorem bM (hx : env.ev x = .int k (a : Int)) (hy : env.ev y = .int k (b : Int)) : Qt C L ⟨dst, .binOp .leq t x y ty2, ty, po, af, gj⟩ env (.bool (decide (a ≤ b))) := fun w _ =>
 G4 rfl hx hy (by simp [binOp, Op.intCmp])
theorem M0 (hx : env.ev x = .int k (a : Int)) (hy : env.ev y = .int k (b : Int)) : Qt C L ⟨dst, .binOp .gtr t x y ty2, ty, po, af, gj⟩ env (.bool (decide (b < a))) := fun w _ =>
 G4 rfl hx hy (by simp [binOp, Op.intCmp])
theorem T0 (hx : env.ev x = .int k (a : Int)) (hy : env.ev y = .int k (b : Int)) : Qt C L ⟨dst, .binOp .geq t x y ty2, ty, po, af, gj⟩ env (.bool (decide (b ≤ a))) := fun w _ =>
 G4 rfl hx hy (by simp [binOp, Op.intCmp])
theorem z6 (hx : env.ev x = .int k (a : Int)) (hy : env.ev y = .int k (b : Int)) : Qt C L ⟨dst, .binOp .eql t x y ty2, ty, po, af, gj⟩ env (.bool (decide (a = b))) := fun w _ =>
 G4 rfl hx hy (by simp [binOp, Op.intCmp]; rw [Bool.eq_iff_iff]; simp; omega)
theorem C7 (hx : env.ev x = .int k (a : Int)) (hy : env.ev y = .int k (b : Int)) : Qt C L ⟨dst, .binOp .neq t x y ty2, ty, po, af, gj⟩ env (.bool (decide (a ≠ b))) := fun w _ =>
 G4 rfl hx hy (by simp [binOp, Op.intCmp]; rw [Bool.eq_iff_iff]; simp; omega)
theorem iU (hx : env.ev x = .int k m) (hy : env.ev y = .int k n) : Qt C L ⟨dst, .binOp .lss t x y ty2, ty, po, af, gj⟩ env (.bool (decide (m < n))) := fun w _ =>
 G4 rfl hx hy (by simp [binOp, Op.intCmp])
theorem mR (hx : env.ev x = .int k m) (hy : env.ev y = .int k n) : Qt C L ⟨dst, .binOp .gtr t x y ty2, ty, po, af, gj⟩ env (.bool (decide (n < m))) := fun w _ =>
 G4 rfl hx hy (by simp [binOp, Op.intCmp])
theorem eI (hx : env.ev x = .int k m) (hy : env.ev y = .int k n) : Qt C L ⟨dst, .binOp .geq t x y ty2, ty, po, af, gj⟩ env (.bool (decide (n ≤ m))) := fun w _ =>
 G4 rfl hx hy (by simp [binOp, Op.intCmp])
theorem I5 (hx : env.ev x = .int k m) (hy : env.ev y = .int k n) : Qt C L ⟨dst, .binOp .eql t x y ty2, ty, po, af, gj⟩ env (.bool (decide (m = n))) := fun w _ =>
 G4 rfl hx hy (by simp [binOp, Op.intCmp]; rw [Bool.eq_iff_iff]; simp)
theorem dG (hx : env.ev x = .int k m) (hy : env.ev y = .int k n) : Qt C L ⟨dst, .binOp .neq t x y ty2, ty, po, af, gj⟩ env (.bool (decide (m ≠ n))) := fun w _ =>
 G4 rfl hx hy (by simp [binOp, Op.intCmp]; rw [Bool.eq_iff_iff]; simp)
theorem r8 {src dstT : TypeId} {kd : IntKind} (h1 : C.P.underlying src = some (.int k)) (h2 : C.P.underlying dstT = some (.int kd)) (hx : env.ev x = .int k (a : Int)) (h : a ≤ H1 kd) :
  Qt C L ⟨dst, .convert src dstT x, ty, po, af, gj⟩ env (.int kd (a : Int)) := fun w _ => by
 simp [execOp, Go.convert, run_underlying h1, run_underlying h2, hx, Conv.intToInt, aT h]
theorem rK {src dstT : TypeId} {kd : IntKind} (h1 : C.P.underlying src = some (.int k)) (h2 : C.P.underlying dstT = some (.int kd)) (hx : env.ev x = .int k m) :
  Qt C L ⟨dst, .convert src dstT x, ty, po, af, gj⟩ env (.int kd (kd.wrap m)) := fun w _ => by
 simp [execOp, Go.convert, run_underlying h1, run_underlying h2, hx, Conv.intToInt]
/-! errors: an interface value against nil -/
theorem zcp {P : Program} {w : World} {ms : Array (String × TypeId)} (ht : P.underlying t = some (.interface ms)) (d : Nat) : (Op.equalIn (d + 1) t .nilIface .nilIface).run P w = .ok true w := by
 simp [Op.equalIn, run_underlying ht]
theorem zaG {P : Program} {w : World} {ms : Array (String × TypeId)} {e : TypeId} (ht : P.underlying t = some (.interface ms)) (d : Nat) : (Op.equalIn (d + 1) t (.iface e v) .nilIface).run P w = .ok false w := by
 simp [Op.equalIn, run_underlying ht]
theorem xF {P : Program} {w : World} {ms : Array (String × TypeId)} (ht : P.underlying t = some (.interface ms)) : (Op.equal t .nilIface .nilIface).run P w = .ok true w := zcp ht 9999
theorem pQ {P : Program} {w : World} {ms : Array (String × TypeId)} {d : TypeId} (ht : P.underlying t = some (.interface ms)) : (Op.equal t (.iface d v) .nilIface).run P w = .ok false w := zaG ht 9999
theorem BN : env.ev (.const .nilIface) = .nilIface := rfl
theorem F0 {ms : Array (String × TypeId)} (ht : C.P.underlying t = some (.interface ms)) (hx : env.ev x = .nilIface) : Qt C L ⟨dst, .binOp .neq t x (.const .nilIface) ty2, ty, po, af, gj⟩ env (.bool false) := fun w _ => by
 simp [execOp, hx, BN, eqGuard, binOp, xF ht]
theorem zap {ms : Array (String × TypeId)} {d : TypeId} (ht : C.P.underlying t = some (.interface ms)) (hx : env.ev x = .iface d v) : Qt C L ⟨dst, .binOp .neq t x (.const .nilIface) ty2, ty, po, af, gj⟩ env (.bool true) := fun w _ => by
 simp [execOp, hx, BN, eqGuard, binOp, pQ ht]
theorem za2 {ms : Array (String × TypeId)} (ht : C.P.underlying t = some (.interface ms)) (hx : env.ev x = .nilIface) : Qt C L ⟨dst, .binOp .eql t x (.const .nilIface) ty2, ty, po, af, gj⟩ env (.bool true) := fun w _ => by
 simp [execOp, hx, BN, eqGuard, binOp, xF ht]
theorem zan {ms : Array (String × TypeId)} {d : TypeId} (ht : C.P.underlying t = some (.interface ms)) (hx : env.ev x = .iface d v) : Qt C L ⟨dst, .binOp .eql t x (.const .nilIface) ty2, ty, po, af, gj⟩ env (.bool false) := fun w _ => by
 simp [execOp, hx, BN, eqGuard, binOp, pQ ht]
/-! addresses -/
theorem zao {e : TypeId} {A : Addr} {N c i sz : Nat} {ki : IntKind} (ht : C.P.underlying t = some (.slice e)) (hsz : (C.P.info? e).map (·.size) = some sz) (hx : env.ev x = .slice (some A) N c) (hy : env.ev y = .int ki (i : Int)) (hi : i < N) :
  Qt C L ⟨dst, .indexAddr t x y, ty, po, af, gj⟩ env (.pointer (some (A.add (i * sz)))) := fun w _ => by
 obtain ⟨inf, hin, hs⟩ := Option.map_eq_some_iff.1 hsz
 simp [execOp, hx, hy, Instr.indexAt, asIntOf, run_underlying ht, sizeOf, typeInfo, hin, hs, hi]
theorem za3 {e : TypeId} {A : Addr} {N i sz : Nat} {ki : IntKind} (ht : C.P.underlying t = some (.array N e)) (hsz : (C.P.info? e).map (·.size) = some sz) (hx : env.ev x = .pointer (some A)) (hy : env.ev y = .int ki (i : Int)) (hi : i < N) :
  Qt C L ⟨dst, .indexAddr t x y, ty, po, af, gj⟩ env (.pointer (some (A.add (i * sz)))) := fun w _ => by
 obtain ⟨inf, hin, hs⟩ := Option.map_eq_some_iff.1 hsz
 simp [execOp, hx, hy, Instr.indexAt, Instr.sureAddr, asIntOf, run_underlying ht, sizeOf, typeInfo, hin, hs, hi]
end ops
end Go.E
namespace Go.E
variable {C : Ctx} {Q : EQ} {env : Env} {L : List Assn} {ops : Array Oper} {rest : List Oper}
/-! ### what is known of a block -/
def IsObj (b : Nat) (o : Obj) : Assn := ⟨[b], fun w => w.heap[b]? = some o, fun w w' h hk => (h b (List.mem_cons_self ..)).trans hk⟩
def Blk (b : Nat) (T : TypeId) (cs : List Value) : Assn := IsObj b (.cells cs.toArray T (0, 0))
def vl : Value → List Value
 | .agg cs => cs.toList
 | v => [v]
theorem bY (v : Value) : v.cells = (vl v).toArray := by cases v <;> simp [Value.cells, vl]
theorem zgl (v : Value) : v.cells.size = (vl v).length := by rw [bY]; simp
theorem IsObj.fp {b : Nat} {o : Obj} : (IsObj b o).fp = [b] := rfl
theorem Blk.fp {b : Nat} {T : TypeId} {cs : List Value} : (Blk b T cs).fp = [b] := rfl
def Has (C : Ctx) (L : List Assn) (A : Assn) : Prop := ∀ w, St C.w0 C.M L w → A.ok w
theorem BA {A : Assn} (h : A ∈ L) : Has C L A := fun w hw => hw.ok h
theorem c9 {A : Assn} (h : Ro C.w0 C.M A) : Has C L A := fun w hw => h.at hw
theorem s6 {A : Assn} (i : Nat) (h : L[i]? = some A) : Has C L A := BA (List.mem_of_getElem? h)
def Ld (C : Ctx) (L : List Assn) (A : y8) (T : TypeId) (v : Value) : Prop := ∀ w, St C.w0 C.M L w → ∃ p, A = some p ∧ (loadVar T p).run C.P w = .ok v w
def BT (P : Program) (T : TypeId) : Bool := match P.underlying T with
 | some (.struct _) | some (.array _ _) | none => false
 | some _ => true
def kU (P : Program) (T : TypeId) : Bool := match P.underlying T with
 | some (.struct _) | some (.array _ _) => true
 | _ => false
theorem za0 {P : Program} {T : TypeId} {w : World} (h : BT P T = true) : (isAgg T).run P w = .ok false w := by
 unfold BT at h
 cases hu : P.underlying T with
 | none => simp [hu] at h
 | some d =>
  unfold isAgg
  rw [Sem.run_bind, run_underlying hu w]
  cases d <;> simp_all
theorem mM {P : Program} {T : TypeId} {w : World} (h : kU P T = true) : (isAgg T).run P w = .ok true w := by
 unfold kU at h
 cases hu : P.underlying T with
 | none => simp [hu] at h
 | some d =>
  unfold isAgg
  rw [Sem.run_bind, run_underlying hu w]
  cases d <;> simp_all
theorem dM {P : Program} {T : TypeId} {w : World} {p : Addr} {v : Value} (h : BT P T = true) (hc : w.cell? p = some v) : (loadVar T p).run P w = .ok v w := by
 unfold loadVar
 rw [Sem.run_bind, za0 h]
 simp [hc]
theorem iJ {P : Program} {T : TypeId} {w : World} {p : Addr} {cs : List Value} (h : kU P T = true) (hs : (P.info? T).map (·.size) = some cs.length)
  (hc : ∀ j v, cs[j]? = some v → w.cell? (p.add j) = some v) : (loadVar T p).run P w = .ok (.agg cs.toArray) w := by
 obtain ⟨i, hi, hsz⟩ := Option.map_eq_some_iff.1 hs
 unfold loadVar
 rw [Sem.run_bind, mM h]
 simp [sizeOf, typeInfo, hi, hsz, run_loadCells_list (P := P) w p cs hc]
theorem bA {w : World} {b o : Nat} {T : TypeId} {cs : List Value} (h : (Blk b T cs).ok w) : w.cell? ⟨b, o, none⟩ = cs[o]? := by
 have h' : w.heap[b]? = some (.cells cs.toArray T (0, 0)) := h
 simp [World.cell?, h']
theorem Q4 (b o j : Nat) : (⟨b, o, none⟩ : Addr).add j = ⟨b, o + j, none⟩ := Addr.add_mid b o j
theorem i9 {b o : Nat} {T T' : TypeId} {cs : List Value} {v : Value} (h : Has C L (Blk b T' cs)) (hT : BT C.P T = true) (hv : cs[o]? = some v) : Ld C L (some ⟨b, o, none⟩) T v := fun w hw =>
 ⟨_, rfl, dM hT ((bA (h w hw)).trans hv)⟩
theorem Q0 {b o : Nat} {T T' : TypeId} {cs vs : List Value} (h : Has C L (Blk b T' cs)) (hT : kU C.P T = true) (hs : (C.P.info? T).map (·.size) = some vs.length) (hv : ∀ j v, vs[j]? = some v → cs[o + j]? = some v) :
  Ld C L (some ⟨b, o, none⟩) T (.agg vs.toArray) := fun w hw =>
 ⟨_, rfl, iJ hT hs fun j v hj => by rw [Q4, bA (h w hw)]; exact hv j v hj⟩
theorem i4 {b : Nat} {T T' : TypeId} {vs : List Value} (h : Has C L (Blk b T' vs)) (hT : kU C.P T = true) (hs : (C.P.info? T).map (·.size) = some vs.length) :
  Ld C L (some ⟨b, 0, none⟩) T (.agg vs.toArray) := Q0 h hT hs fun j v hj => by simpa using hj
section ops
variable {dst : Option Tmp} {ty : TypeId} {po : String} {af : Array Edge} {gj : Option (Nat × Bool)} {x y z : Operand} {v : Value} {T : TypeId}
theorem a8 {A : y8} (hx : env.ev x = .pointer A) (h : Ld C L A T v) : Qt C L ⟨dst, .load T x, ty, po, af, gj⟩ env v := fun w hw => by
 obtain ⟨p, rfl, hp⟩ := h w hw
 simp [execOp, hx, Instr.loadAt, Instr.sureAddr, hp]
theorem x9 {fs : Array Field} {f : Field} {i b o sz : Nat} (hT : C.P.underlying T = some (.struct fs)) (hf : fs[i]? = some f) (hs : (C.P.info? f.type).map (·.size) = some (sz + 1)) (hx : env.ev x = .pointer (some ⟨b, o, none⟩)) :
  Qt C L ⟨dst, .fieldAddr T x i, ty, po, af, gj⟩ env (.pointer (some ⟨b, o + f.offset, none⟩)) := fun w hw => by
 obtain ⟨inf, hin, hsz⟩ := Option.map_eq_some_iff.1 hs
 simp [execOp, hx, Instr.fieldAt, Instr.sureAddr, run_underlying hT, hf, fieldPlace, sizeOf, typeInfo, hin, hsz, Q4]
end ops
/-! ### a slice that is read -/
theorem lE (a : Addr) (n : Nat) : (a.add n).block = a.block := by unfold Addr.add; split <;> rfl
theorem add_add (a : Addr) (i j : Nat) : (a.add i).add j = a.add (i + j) := by
 unfold Addr.add
 by_cases hi : i = 0 <;> by_cases hj : j = 0 <;> simp [hi, hj, Nat.add_assoc]
def SlA (A : y8) (cs : List Value) : Assn where
 fp := match A, cs with
  | some a, _ :: _ => [a.block]
  | _, _ => []
 ok w := ∀ j u, cs[j]? = some u → ∃ a, A = some a ∧ w.cell? (a.add j) = some u
 stable w w' h hk j u hj := by
  obtain ⟨a, rfl, hc⟩ := hk j u hj
  refine ⟨a, rfl, ?_⟩
  cases cs with
  | nil => simp at hj
  | cons c cs =>
   have hb := h a.block (List.mem_cons_self ..)
   rw [World.cell?_of_block (w := w) (by rw [lE]; exact hb)]
   exact hc
theorem SlA.cut {A : y8} {cs : List Value} {w : World} (h : (SlA A cs).ok w) {c l k : Nat} (hc : c = l → cs.length ≤ k) : (SlA (if c = l then A else A.map (·.add k)) (cs.drop k)).ok w := by
 intro j u hj
 rw [List.getElem?_drop] at hj
 obtain ⟨a, rfl, hu⟩ := h _ u hj
 by_cases he : c = l
 ·have := hc he
  rw [List.getElem?_eq_none ow] at hj; cases hj
 ·rw [if_neg he]
  exact ⟨a.add k, rfl, by rw [add_add]; exact hu⟩
theorem SlA.take {A : y8} {cs : List Value} {w : World} (h : (SlA A cs).ok w) (k : Nat) : (SlA A (cs.take k)).ok w := by
 intro j u hj
 rw [List.getElem?_take] at hj
 split at hj
 ·exact h j u hj
 ·cases hj
theorem CP {A : y8} {cs : List Value} (h : Has C L (SlA A cs)) (k : Nat) : Has C L (SlA A (cs.take k)) := fun w hw => SlA.take (h w hw) k
theorem A9 {A : y8} {cs : List Value} {T : TypeId} {k : Nat} {v : Value} (h : Has C L (SlA A cs)) (hT : BT C.P T = true) (hv : cs[k]? = some v) : Ld C L (A.map (·.add k)) T v := fun w hw => by
 obtain ⟨a, rfl, hu⟩ := h w hw k v hv
 exact ⟨_, rfl, dM hT hu⟩
theorem H4 {A : y8} {cs : List Value} {T : TypeId} {k : Nat} {vs : List Value} (h : Has C L (SlA A cs)) (hT : kU C.P T = true) (hs : (C.P.info? T).map (·.size) = some vs.length) (hl : 0 < vs.length) (hv : ∀ j v, vs[j]? = some v → cs[k + j]? = some v) :
  Ld C L (A.map (·.add k)) T (.agg vs.toArray) := fun w hw => by
 obtain ⟨a, rfl, _⟩ := h w hw _ _ (hv 0 _ (List.getElem?_eq_getElem hl))
 refine ⟨_, rfl, iJ hT hs fun j v hj => ?_⟩
 obtain ⟨a', e, hu⟩ := h w hw _ _ (hv j v hj)
 injection e with e
 subst e
 rw [add_add]
 exact hu
section ops
variable {dst : Option Tmp} {ty : TypeId} {po : String} {af : Array Edge} {gj : Option (Nat × Bool)} {x y z : Operand} {v : Value} {T : TypeId}
theorem i5 {e : TypeId} {A : y8} {N c i sz : Nat} {ki : IntKind} {cs : List Value} (ht : C.P.underlying T = some (.slice e)) (hsz : (C.P.info? e).map (·.size) = some sz) (hx : env.ev x = .slice A N c) (hy : env.ev y = .int ki (i : Int)) (hi : i < N)
  (h : Has C L (SlA A cs)) (hc : i * sz < cs.length) : Qt C L ⟨dst, .indexAddr T x y, ty, po, af, gj⟩ env (.pointer (A.map (·.add (i * sz)))) := fun w hw => by
 obtain ⟨inf, hin, hs⟩ := Option.map_eq_some_iff.1 hsz
 obtain ⟨a, rfl, _⟩ := h w hw _ _ (List.getElem?_eq_getElem hc)
 simp [execOp, hx, hy, Instr.indexAt, asIntOf, run_underlying ht, sizeOf, typeInfo, hin, hs, hi]
theorem D3 {e : TypeId} {A : y8} {N c l sz : Nat} {ki : IntKind} (ht : C.P.underlying T = some (.slice e)) (hsz : (C.P.info? e).map (·.size) = some sz) (hx : env.ev x = .slice A N c) (hy : env.ev y = .int ki (l : Int)) (hl : l ≤ N) :
  Qt C L ⟨dst, .slice T x (some y) none none, ty, po, af, gj⟩ env (.slice (if c = l then A else A.map (·.add (l * sz))) (N - l) (c - l)) := fun w hw => by
 obtain ⟨inf, hin, hs⟩ := Option.map_eq_some_iff.1 hsz
 simp [execOp, hx, hy, Instr.sliceAt, Instr.slice, Instr.sliceBounds, Instr.sliceBound, asIntOf, run_underlying ht, sizeOf, typeInfo, hin, hs, hl]
theorem T3 {e : TypeId} {A : y8} {N c h sz : Nat} {ki : IntKind} (ht : C.P.underlying T = some (.slice e)) (hsz : (C.P.info? e).map (·.size) = some sz) (hx : env.ev x = .slice A N c) (hy : env.ev y = .int ki (h : Int)) (hl : h ≤ c) :
  Qt C L ⟨dst, .slice T x none (some y) none, ty, po, af, gj⟩ env (.slice A h c) := fun w hw => by
 obtain ⟨inf, hin, hs⟩ := Option.map_eq_some_iff.1 hsz
 have h0 : A.map (fun a => a.add 0) = A := by cases A <;> simp [Addr.add]
 simp [execOp, hx, hy, Instr.sliceAt, Instr.slice, Instr.sliceBounds, Instr.sliceBound, asIntOf, run_underlying ht, sizeOf, typeInfo, hin, hl, h0]
theorem zaD {e : TypeId} {A : y8} {N c l h sz : Nat} {ki kj : IntKind} (ht : C.P.underlying T = some (.slice e)) (hsz : (C.P.info? e).map (·.size) = some sz) (hx : env.ev x = .slice A N c) (hy : env.ev y = .int ki (l : Int)) (hz : env.ev z = .int kj (h : Int)) (hl : l ≤ h) (hh : h ≤ c) :
  Qt C L ⟨dst, .slice T x (some y) (some z) none, ty, po, af, gj⟩ env (.slice (if c = l then A else A.map (·.add (l * sz))) (h - l) (c - l)) := fun w hw => by
 obtain ⟨inf, hin, hs⟩ := Option.map_eq_some_iff.1 hsz
 simp [execOp, hx, hy, hz, Instr.sliceAt, Instr.slice, Instr.sliceBounds, Instr.sliceBound, asIntOf, run_underlying ht, sizeOf, typeInfo, hin, hs, hl, hh]
end ops
/-! ### new blocks -/
theorem St.alloc {w0 w : World} {M : List Nat} {L : List Assn} (h : St w0 M L w) (o : Obj) : St w0 M (IsObj w.heap.size o :: L) (w.alloc o) := by
 have hold : ∀ b, b < w.heap.size → (w.alloc o).heap[b]? = w.heap[b]? := fun b hb => heap_alloc_old w o b hb
 refine ⟨h.os, h.tape, h.output, by simp; exact Nat.le_succ_of_le h.size, fun b hb hM => (hold b (Nat.lt_of_lt_of_le hb h.size)).trans (h.block b hb hM), ⟨?_, ?_, ?_⟩, ?_⟩
 ·intro A hA
  rcases List.mem_cons.1 hA with rfl | hA
  ·exact heap_alloc_new w o
  ·exact A.stable w _ (fun b hb => hold b (h.sat.lt b (cU.2 ⟨A, hA, hb⟩))) (h.sat.ok A hA)
 ·intro b hb
  rw [bP, IsObj.fp] at hb
  rcases List.mem_append.1 hb with hb | hb
  ·rw [List.mem_singleton.1 hb]; simp
  ·have := h.sat.lt b hb; simp; omega
 ·rw [bP, IsObj.fp]
  refine List.nodup_cons.2 ⟨fun hb => ?_, h.sat.nodup⟩
  exact absurd (h.sat.lt _ hb) (Nat.lt_irrefl _)
 ·intro b hb
  rw [bP, IsObj.fp] at hb
  rcases List.mem_append.1 hb with hb | hb
  ·rw [List.mem_singleton.1 hb]; exact .inr h.size
  ·exact h.own b hb
def E3 (P : Program) (T : TypeId) : Option (List Value) := ((P.info? T).bind (·.zero)).map vl
section ops
variable {dst : Option Tmp} {ty : TypeId} {po : String} {af : Array Edge} {gj : Option (Nat × Bool)} {x y z : Operand} {v : Value} {T : TypeId} {K : Value → List Assn → Prop}
theorem z4 {zs : List Value} (hz : E3 C.P T = some zs) (h : ∀ b, K (.pointer (some ⟨b, 0, none⟩)) (Blk b T zs :: L)) : OpV C ⟨dst, .alloc T, ty, po, af, gj⟩ env L K := fun w hw => by
 obtain ⟨zv, hzv, rfl⟩ := Option.map_eq_some_iff.1 hz
 obtain ⟨inf, hin, hi0⟩ := Option.bind_eq_some_iff.1 hzv
 have hrun : (execOp env.ev ⟨dst, .alloc T, ty, po, af, gj⟩).run C.P w = .ok (.value (.pointer (some ⟨w.heap.size, 0, none⟩))) (w.alloc (.cells zv.cells T)) := by
  simp [execOp, Instr.alloc, zeroValue, typeInfo, hin, hi0, newVar, newRow]
 rw [hrun]
 refine ⟨_, hw.alloc _, ?_⟩
 rw [bY]
 exact h w.heap.size
theorem News.alloc {zs : List Value} (hz : E3 C.P T = some zs) : News C ⟨dst, .alloc T, ty, po, af, gj⟩ env (fun v new => ∃ b, v = .pointer (some ⟨b, 0, none⟩) ∧ new = [Blk b T zs]) := fun L K h =>
 z4 hz fun b => h _ _ ⟨b, rfl, rfl⟩
theorem iR (hx : env.ev x = v) (h : ∀ b, K (.pointer (some ⟨b, 0, none⟩)) (Blk b T (vl v) :: L)) : OpV C ⟨dst, .box T x, ty, po, af, gj⟩ env L K := fun w hw => by
 have hrun : (execOp env.ev ⟨dst, .box T x, ty, po, af, gj⟩).run C.P w = .ok (.value (.pointer (some ⟨w.heap.size, 0, none⟩))) (w.alloc (.cells v.cells T)) := by
  simp [execOp, hx, Instr.box, newVar, newRow]
 rw [hrun]
 refine ⟨_, hw.alloc _, ?_⟩
 rw [bY]
 exact h w.heap.size
end ops
/-! ### a store -/
theorem St.upd {w0 w w' : World} {M : List Nat} {L1 L2 : List Assn} {A A' : Assn} (h : St w0 M (L1 ++ A :: L2) w) (hfp : A'.fp = A.fp) (h1 : w'.os = w.os) (h2 : w'.tape = w.tape) (h3 : w'.output = w.output)
  (h4 : w'.heap.size = w.heap.size) (h5 : ∀ b, b ∉ A.fp → w'.heap[b]? = w.heap[b]?) (h6 : A'.ok w') : St w0 M (L1 ++ A' :: L2) w' := by
 have hf : A8 (L1 ++ A' :: L2) = A8 (L1 ++ A :: L2) := by rw [G2, G2, bP, bP, hfp]
 have hn := h.sat.nodup
 rw [G2, bP] at hn
 have hn1 := (List.nodup_append.1 hn).2.2
 have hn2 := (List.nodup_append.1 (List.nodup_append.1 hn).2.1).2.2
 have hAM : ∀ b ∈ A.fp, b ∈ M ∨ w0.heap.size ≤ b := fun b hb => h.own b (by rw [G2, bP]; exact List.mem_append.2 (.inr (List.mem_append.2 (.inl hb))))
 refine ⟨h1.trans h.os, h2.trans h.tape, h3.trans h.output, h4 ▸ h.size, fun b hb hM => ?_, ⟨?_, ?_, ?_⟩, ?_⟩
 ·rw [h5 b (fun hbA => ?_)]
  ·exact h.block b hb hM
  ·rcases hAM b hbA with h7 | h7
   ·exact hM h7
   ·omega
 ·intro X hX
  rcases List.mem_append.1 hX with hX | hX
  ·refine X.stable w w' (fun b hb => h5 b (fun hbA => ?_)) (h.sat.ok X (List.mem_append.2 (.inl hX)))
   exact hn1 b (cU.2 ⟨X, hX, hb⟩) b (List.mem_append.2 (.inl hbA)) rfl
  ·rcases List.mem_cons.1 hX with rfl | hX
   ·exact h6
   ·refine X.stable w w' (fun b hb => h5 b (fun hbA => ?_)) (h.sat.ok X (List.mem_append.2 (.inr (List.mem_cons_of_mem _ hX))))
    exact hn2 b hbA b (cU.2 ⟨X, hX, hb⟩) rfl
 ·rw [hf, h4]; exact h.sat.lt
 ·rw [hf]; exact h.sat.nodup
 ·rw [hf]; exact h.own
theorem zam {P : Program} {w : World} {b o : Nat} {T T' : TypeId} {cs : List Value} {v : Value} (h : (Blk b T' cs).ok w) (hs : (P.info? T).map (·.size) = some (vl v).length) (hb : o + (vl v).length ≤ cs.length) (h1 : (vl v).all (·.oneCell') = true) :
  (storeVar T ⟨b, o, none⟩ v).run P w = .ok () (w.setRow b (cs.take o ++ vl v ++ cs.drop (o + (vl v).length)).toArray) := by
 obtain ⟨i, hi, hsz⟩ := Option.map_eq_some_iff.1 hs
 have hst := run_storeCells_at P b o T' (vl v) 0 cs.toArray w h (by simpa using hb) (fun u hu => (List.all_eq_true.1 h1) u hu)
 have hc : v.cells.toList = vl v := by rw [bY]
 simp only [Nat.add_zero] at hst
 unfold storeVar
 simp [sizeOf, typeInfo, hi, hsz, hc, zgl, hst]
theorem St.setRow {w0 w : World} {M : List Nat} {L1 L2 : List Assn} {b : Nat} {T : TypeId} {cs cs' : List Value} (h : St w0 M (L1 ++ Blk b T cs :: L2) w) : St w0 M (L1 ++ Blk b T cs' :: L2) (w.setRow b cs'.toArray) := by
 have hb : w.heap[b]? = some (.cells cs.toArray T (0, 0)) := h.ok (List.mem_append.2 (.inr (List.mem_cons_self ..)))
 refine h.upd rfl rfl rfl rfl (by simp) (fun k hk => ?_) (setRow_heap w b _ _ T _ hb)
 have hne : b ≠ k := fun e => hk (by rw [Blk.fp, e]; exact List.mem_cons_self ..)
 simp only [World.setRow]
 rw [Array.getElem?_modify, if_neg hne]
theorem E7 {dst : Option Tmp} {ty : TypeId} {po : String} {af : Array Edge} {gj : Option (Nat × Bool)} {x y : Operand} {v : Value} {T T' : TypeId} {K : Value → List Assn → Prop} {L1 L2 : List Assn} {b o : Nat} {cs cs' : List Value}
  (hx : env.ev x = .pointer (some ⟨b, o, none⟩)) (hy : env.ev y = v) (hs : (C.P.info? T).map (·.size) = some (vl v).length) (h1 : (vl v).all (·.oneCell') = true) (hb : o + (vl v).length ≤ cs.length)
  (hc : cs.take o ++ vl v ++ cs.drop (o + (vl v).length) = cs') (h : K undef (L1 ++ Blk b T' cs' :: L2)) : OpV C ⟨dst, .store T x y, ty, po, af, gj⟩ env (L1 ++ Blk b T' cs :: L2) K := fun w hw => by
 have hblk : (Blk b T' cs).ok w := hw.ok (List.mem_append.2 (.inr (List.mem_cons_self ..)))
 have hst := zam (P := C.P) hblk hs hb h1
 subst hc
 have hrun : (execOp env.ev ⟨dst, .store T x y, ty, po, af, gj⟩).run C.P w = .ok .skip (w.setRow b (cs.take o ++ vl v ++ cs.drop (o + (vl v).length)).toArray) := by
  simp only [execOp, hx, hy, Instr.storeAt, Instr.sureAddr, Sem.run_bind, Sem.run_pure, Result.andThen_ok, hst]
 rw [hrun]
 exact ⟨_, hw.setRow, h⟩
theorem cW {cs vs : List Value} (h : vs.length = cs.length) : cs.take 0 ++ vs ++ cs.drop (0 + vs.length) = vs := by simp [h]
theorem dY {cs : List Value} {v : Value} {o : Nat} (h : o < cs.length) : cs.take o ++ [v] ++ cs.drop (o + [v].length) = cs.set o v := by
 rw [List.set_eq_take_append_cons_drop, if_pos h]; simp
theorem j5 {dst : Option Tmp} {ty : TypeId} {po : String} {af : Array Edge} {gj : Option (Nat × Bool)} {x y : Operand} {v : Value} {T T' : TypeId} {K : Value → List Assn → Prop} {R : List Assn} {b : Nat} {cs : List Value}
  (hx : env.ev x = .pointer (some ⟨b, 0, none⟩)) (hy : env.ev y = v) (hs : (C.P.info? T).map (·.size) = some (vl v).length) (h1 : (vl v).all (·.oneCell') = true) (hl : (vl v).length = cs.length)
  (h : K undef (Blk b T' (vl v) :: R)) : OpV C ⟨dst, .store T x y, ty, po, af, gj⟩ env (Blk b T' cs :: R) K :=
 E7 (L1 := []) hx hy hs h1 ow (cW hl) h
theorem zbP {dst : Option Tmp} {ty : TypeId} {po : String} {af : Array Edge} {gj : Option (Nat × Bool)} {x y : Operand} {v : Value} {T T' : TypeId} {K : Value → List Assn → Prop} {R : List Assn} {b o : Nat} {cs : List Value}
  (hx : env.ev x = .pointer (some ⟨b, o, none⟩)) (hy : env.ev y = v) (hs : (C.P.info? T).map (·.size) = some 1) (hv : vl v = [v]) (h1 : v.oneCell' = true) (hl : o < cs.length)
  (h : K undef (Blk b T' (cs.set o v) :: R)) : OpV C ⟨dst, .store T x y, ty, po, af, gj⟩ env (Blk b T' cs :: R) K :=
 E7 (L1 := []) hx hy (by rw [hv]; exact hs) (by rw [hv]; simp [h1]) (by rw [hv]; exact hl) (by rw [hv]; exact dY hl) h
theorem F9 {dst : Option Tmp} {ty : TypeId} {po : String} {af : Array Edge} {gj : Option (Nat × Bool)} {x y : Operand} {v : Value} {T T' : TypeId} {K : Value → List Assn → Prop} {B0 : Assn} {R : List Assn} {b : Nat} {cs : List Value}
  (hx : env.ev x = .pointer (some ⟨b, 0, none⟩)) (hy : env.ev y = v) (hs : (C.P.info? T).map (·.size) = some (vl v).length) (h1 : (vl v).all (·.oneCell') = true) (hl : (vl v).length = cs.length)
  (h : K undef (B0 :: Blk b T' (vl v) :: R)) : OpV C ⟨dst, .store T x y, ty, po, af, gj⟩ env (B0 :: Blk b T' cs :: R) K :=
 E7 (L1 := [B0]) hx hy hs h1 ow (cW hl) h
theorem rH {dst : Option Tmp} {ty : TypeId} {po : String} {af : Array Edge} {gj : Option (Nat × Bool)} {x y : Operand} {v : Value} {T T' : TypeId} {K : Value → List Assn → Prop} {B0 : Assn} {R : List Assn} {b o : Nat} {cs : List Value}
  (hx : env.ev x = .pointer (some ⟨b, o, none⟩)) (hy : env.ev y = v) (hs : (C.P.info? T).map (·.size) = some 1) (hv : vl v = [v]) (h1 : v.oneCell' = true) (hl : o < cs.length)
  (h : K undef (B0 :: Blk b T' (cs.set o v) :: R)) : OpV C ⟨dst, .store T x y, ty, po, af, gj⟩ env (B0 :: Blk b T' cs :: R) K :=
 E7 (L1 := [B0]) hx hy (by rw [hv]; exact hs) (by rw [hv]; simp [h1]) (by rw [hv]; exact hl) (by rw [hv]; exact dY hl) h
theorem K9 {dst : Option Tmp} {ty : TypeId} {po : String} {af : Array Edge} {gj : Option (Nat × Bool)} {x y : Operand} {v : Value} {T T' : TypeId} {K : Value → List Assn → Prop} {B0 B1 : Assn} {R : List Assn} {b : Nat} {cs : List Value}
  (hx : env.ev x = .pointer (some ⟨b, 0, none⟩)) (hy : env.ev y = v) (hs : (C.P.info? T).map (·.size) = some (vl v).length) (h1 : (vl v).all (·.oneCell') = true) (hl : (vl v).length = cs.length)
  (h : K undef (B0 :: B1 :: Blk b T' (vl v) :: R)) : OpV C ⟨dst, .store T x y, ty, po, af, gj⟩ env (B0 :: B1 :: Blk b T' cs :: R) K :=
 E7 (L1 := [B0, B1]) hx hy hs h1 ow (cW hl) h
theorem R4 {dst : Option Tmp} {ty : TypeId} {po : String} {af : Array Edge} {gj : Option (Nat × Bool)} {x y : Operand} {v : Value} {T T' : TypeId} {K : Value → List Assn → Prop} {B0 B1 : Assn} {R : List Assn} {b o : Nat} {cs : List Value}
  (hx : env.ev x = .pointer (some ⟨b, o, none⟩)) (hy : env.ev y = v) (hs : (C.P.info? T).map (·.size) = some 1) (hv : vl v = [v]) (h1 : v.oneCell' = true) (hl : o < cs.length)
  (h : K undef (B0 :: B1 :: Blk b T' (cs.set o v) :: R)) : OpV C ⟨dst, .store T x y, ty, po, af, gj⟩ env (B0 :: B1 :: Blk b T' cs :: R) K :=
 E7 (L1 := [B0, B1]) hx hy (by rw [hv]; exact hs) (by rw [hv]; simp [h1]) (by rw [hv]; exact hl) (by rw [hv]; exact dY hl) h
theorem R5 {dst : Option Tmp} {ty : TypeId} {po : String} {af : Array Edge} {gj : Option (Nat × Bool)} {x y : Operand} {v : Value} {T T' : TypeId} {K : Value → List Assn → Prop} {B0 B1 B2 : Assn} {R : List Assn} {b : Nat} {cs : List Value}
  (hx : env.ev x = .pointer (some ⟨b, 0, none⟩)) (hy : env.ev y = v) (hs : (C.P.info? T).map (·.size) = some (vl v).length) (h1 : (vl v).all (·.oneCell') = true) (hl : (vl v).length = cs.length)
  (h : K undef (B0 :: B1 :: B2 :: Blk b T' (vl v) :: R)) : OpV C ⟨dst, .store T x y, ty, po, af, gj⟩ env (B0 :: B1 :: B2 :: Blk b T' cs :: R) K :=
 E7 (L1 := [B0, B1, B2]) hx hy hs h1 ow (cW hl) h
theorem jX {dst : Option Tmp} {ty : TypeId} {po : String} {af : Array Edge} {gj : Option (Nat × Bool)} {x y : Operand} {v : Value} {T T' : TypeId} {K : Value → List Assn → Prop} {B0 B1 B2 : Assn} {R : List Assn} {b o : Nat} {cs : List Value}
  (hx : env.ev x = .pointer (some ⟨b, o, none⟩)) (hy : env.ev y = v) (hs : (C.P.info? T).map (·.size) = some 1) (hv : vl v = [v]) (h1 : v.oneCell' = true) (hl : o < cs.length)
  (h : K undef (B0 :: B1 :: B2 :: Blk b T' (cs.set o v) :: R)) : OpV C ⟨dst, .store T x y, ty, po, af, gj⟩ env (B0 :: B1 :: B2 :: Blk b T' cs :: R) K :=
 E7 (L1 := [B0, B1, B2]) hx hy (by rw [hv]; exact hs) (by rw [hv]; simp [h1]) (by rw [hv]; exact hl) (by rw [hv]; exact dY hl) h
theorem fK {dst : Option Tmp} {ty : TypeId} {po : String} {af : Array Edge} {gj : Option (Nat × Bool)} {x y : Operand} {v : Value} {T T' : TypeId} {K : Value → List Assn → Prop} {B0 B1 B2 B3 : Assn} {R : List Assn} {b : Nat} {cs : List Value}
  (hx : env.ev x = .pointer (some ⟨b, 0, none⟩)) (hy : env.ev y = v) (hs : (C.P.info? T).map (·.size) = some (vl v).length) (h1 : (vl v).all (·.oneCell') = true) (hl : (vl v).length = cs.length)
  (h : K undef (B0 :: B1 :: B2 :: B3 :: Blk b T' (vl v) :: R)) : OpV C ⟨dst, .store T x y, ty, po, af, gj⟩ env (B0 :: B1 :: B2 :: B3 :: Blk b T' cs :: R) K :=
 E7 (L1 := [B0, B1, B2, B3]) hx hy hs h1 ow (cW hl) h
theorem rI {dst : Option Tmp} {ty : TypeId} {po : String} {af : Array Edge} {gj : Option (Nat × Bool)} {x y : Operand} {v : Value} {T T' : TypeId} {K : Value → List Assn → Prop} {B0 B1 B2 B3 : Assn} {R : List Assn} {b o : Nat} {cs : List Value}
  (hx : env.ev x = .pointer (some ⟨b, o, none⟩)) (hy : env.ev y = v) (hs : (C.P.info? T).map (·.size) = some 1) (hv : vl v = [v]) (h1 : v.oneCell' = true) (hl : o < cs.length)
  (h : K undef (B0 :: B1 :: B2 :: B3 :: Blk b T' (cs.set o v) :: R)) : OpV C ⟨dst, .store T x y, ty, po, af, gj⟩ env (B0 :: B1 :: B2 :: B3 :: Blk b T' cs :: R) K :=
 E7 (L1 := [B0, B1, B2, B3]) hx hy (by rw [hv]; exact hs) (by rw [hv]; simp [h1]) (by rw [hv]; exact hl) (by rw [hv]; exact dY hl) h
theorem cY {dst : Option Tmp} {ty : TypeId} {po : String} {af : Array Edge} {gj : Option (Nat × Bool)} {x y : Operand} {v : Value} {T T' : TypeId} {K : Value → List Assn → Prop} {B0 B1 B2 B3 B4 : Assn} {R : List Assn} {b : Nat} {cs : List Value}
  (hx : env.ev x = .pointer (some ⟨b, 0, none⟩)) (hy : env.ev y = v) (hs : (C.P.info? T).map (·.size) = some (vl v).length) (h1 : (vl v).all (·.oneCell') = true) (hl : (vl v).length = cs.length)
  (h : K undef (B0 :: B1 :: B2 :: B3 :: B4 :: Blk b T' (vl v) :: R)) : OpV C ⟨dst, .store T x y, ty, po, af, gj⟩ env (B0 :: B1 :: B2 :: B3 :: B4 :: Blk b T' cs :: R) K :=
 E7 (L1 := [B0, B1, B2, B3, B4]) hx hy hs h1 ow (cW hl) h
theorem zbQ {dst : Option Tmp} {ty : TypeId} {po : String} {af : Array Edge} {gj : Option (Nat × Bool)} {x y : Operand} {v : Value} {T T' : TypeId} {K : Value → List Assn → Prop} {B0 B1 B2 B3 B4 : Assn} {R : List Assn} {b o : Nat} {cs : List Value}
  (hx : env.ev x = .pointer (some ⟨b, o, none⟩)) (hy : env.ev y = v) (hs : (C.P.info? T).map (·.size) = some 1) (hv : vl v = [v]) (h1 : v.oneCell' = true) (hl : o < cs.length)
  (h : K undef (B0 :: B1 :: B2 :: B3 :: B4 :: Blk b T' (cs.set o v) :: R)) : OpV C ⟨dst, .store T x y, ty, po, af, gj⟩ env (B0 :: B1 :: B2 :: B3 :: B4 :: Blk b T' cs :: R) K :=
 E7 (L1 := [B0, B1, B2, B3, B4]) hx hy (by rw [hv]; exact hs) (by rw [hv]; simp [h1]) (by rw [hv]; exact hl) (by rw [hv]; exact dY hl) h
theorem Y7 {dst : Option Tmp} {ty : TypeId} {po : String} {af : Array Edge} {gj : Option (Nat × Bool)} {x y : Operand} {v : Value} {T T' : TypeId} {K : Value → List Assn → Prop} {B0 B1 B2 B3 B4 B5 : Assn} {R : List Assn} {b : Nat} {cs : List Value}
  (hx : env.ev x = .pointer (some ⟨b, 0, none⟩)) (hy : env.ev y = v) (hs : (C.P.info? T).map (·.size) = some (vl v).length) (h1 : (vl v).all (·.oneCell') = true) (hl : (vl v).length = cs.length)
  (h : K undef (B0 :: B1 :: B2 :: B3 :: B4 :: B5 :: Blk b T' (vl v) :: R)) : OpV C ⟨dst, .store T x y, ty, po, af, gj⟩ env (B0 :: B1 :: B2 :: B3 :: B4 :: B5 :: Blk b T' cs :: R) K :=
 E7 (L1 := [B0, B1, B2, B3, B4, B5]) hx hy hs h1 ow (cW hl) h
theorem fM {dst : Option Tmp} {ty : TypeId} {po : String} {af : Array Edge} {gj : Option (Nat × Bool)} {x y : Operand} {v : Value} {T T' : TypeId} {K : Value → List Assn → Prop} {B0 B1 B2 B3 B4 B5 B6 : Assn} {R : List Assn} {b : Nat} {cs : List Value}
  (hx : env.ev x = .pointer (some ⟨b, 0, none⟩)) (hy : env.ev y = v) (hs : (C.P.info? T).map (·.size) = some (vl v).length) (h1 : (vl v).all (·.oneCell') = true) (hl : (vl v).length = cs.length)
  (h : K undef (B0 :: B1 :: B2 :: B3 :: B4 :: B5 :: B6 :: Blk b T' (vl v) :: R)) : OpV C ⟨dst, .store T x y, ty, po, af, gj⟩ env (B0 :: B1 :: B2 :: B3 :: B4 :: B5 :: B6 :: Blk b T' cs :: R) K :=
 E7 (L1 := [B0, B1, B2, B3, B4, B5, B6]) hx hy hs h1 ow (cW hl) h
/-! ### calls -/
def p8 (P : Program) (f : FuncId) : Prop := ∃ fn, P.funcs[f]? = some fn ∧ (fn.name == "runtime.NumGoroutine") = false ∧ fn.body.isNone = false
theorem jN {P : Program} {f : FuncId} {w : World} {args : Array Value} (h : p8 P f) : (callFunc f args).run P w = .ok (.enter f args) w := by
 obtain ⟨fn, h1, h2, h3⟩ := h
 have h2' : fn.name ≠ "runtime.NumGoroutine" := by simpa using h2
 have h3' : ¬ fn.body = none := fun e => by simp [e] at h3
 simp [callFunc, h1, h2', h3']
def D0 (w : World) (M : List Nat) (φ : Value → List Assn → Prop) : Ending → World → Prop := fun e w' => ∃ v L', e = .returned v ∧ St w M L' w' ∧ φ v L'
def nX (w : World) (v : Value) : Ending → World → Prop := fun e w' => e = .returned v ∧ St w [] [] w'
section ops
variable {dst : Option Tmp} {ty : TypeId} {po : String} {af : Array Edge} {gj : Option (Nat × Bool)} {x : Operand} {args : Array Operand} {tys : Array TypeId} {v : Value} {K : Value → List Assn → Prop} {f : FuncId} {cap : Array Value}
def U5 (env : Env) (args : Array Operand) (cap : Array Value) : Array Value := (args.toList.map env.ev ++ cap.toList).toArray
theorem zci (env : Env) (args : Array Operand) (cap : Array Value) : args.map env.ev ++ cap = U5 env args cap := by
 apply Array.ext'
 simp [U5]
theorem ES {P : Program} {w : World} (he : p8 P f) (hx : env.ev x = .func (.func f) #[] cap) :
  (execOp env.ev ⟨dst, .call { callee := .value x, args := args, argTypes := tys }, ty, po, af, gj⟩).run P w = .ok (.enter f (U5 env args cap)) w := by
 rw [← zci]
 simp [execOp, resolve, hx, Deferred.ofValue, invoke, jN he]
theorem CU (he : p8 C.P f) (hx : env.ev x = .func (.func f) #[] cap)
  (hc : ∀ w, St C.w0 C.M L w → Calls C.P f (U5 env args cap) w fun e w' => ∃ v, e = .returned v ∧ ∃ L', St C.w0 C.M L' w' ∧ K v L') :
  OpV C ⟨dst, .call { callee := .value x, args := args, argTypes := tys }, ty, po, af, gj⟩ env L K := fun w hw => by
 rw [ES he hx]
 exact hc w hw
theorem l8 {Pre R : List Assn} {φ : Value → List Assn → Prop} (he : p8 C.P f) (hx : env.ev x = .func (.func f) #[] cap) (hp : L.Perm (Pre ++ R))
  (hc : ∀ w, St C.w0 C.M (Pre ++ R) w → Calls C.P f (U5 env args cap) w (D0 w (A8 Pre) φ)) (hk : ∀ v L', φ v L' → K v (L' ++ R)) :
  OpV C ⟨dst, .call { callee := .value x, args := args, argTypes := tys }, ty, po, af, gj⟩ env L K :=
 CU he hx fun w hw => (hc w (hw.perm hp)).mono fun e w' ⟨v, L', h1, h2, h3⟩ => ⟨v, h1, L' ++ R, (hw.perm hp).frame h2, hk v L' h3⟩
theorem St.after0 {w0 w w' : World} {M : List Nat} {L : List Assn} (h : St w0 M L w) (k : St w [] [] w') : St w0 M L w' := by
 have h' : St w0 M ([] ++ L) w := h
 simpa using h'.frame (P := []) (L' := []) k
theorem R1 (he : p8 C.P f) (hx : env.ev x = .func (.func f) #[] cap)
  (hc : ∀ w, St C.w0 C.M L w → Calls C.P f (U5 env args cap) w (nX w v)) (hk : K v L) :
  OpV C ⟨dst, .call { callee := .value x, args := args, argTypes := tys }, ty, po, af, gj⟩ env L K :=
 CU he hx fun w hw => (hc w hw).mono fun e w' ⟨h1, h2⟩ => ⟨v, h1, L, hw.after0 h2, hk⟩
theorem dZ (he : p8 C.P f) (hx : env.ev x = .func (.func f) #[] cap)
  (hc : ∀ w, St C.w0 C.M L w → Calls C.P f (U5 env args cap) w (nX w v)) :
  ∀ L', Sub L L' → Cal C ⟨dst, .call { callee := .value x, args := args, argTypes := tys }, ty, po, af, gj⟩ env v L' := fun L' s w hw => by
 rw [ES he hx]
 exact (hc w (hw.sub s)).mono fun e w' ⟨h1, h2⟩ => ⟨v, h1, rfl, hw.after0 h2⟩
end ops
/-! ### a function -/
def RVs (C : Ctx) (env : Env) (L : List Assn) : List ResultVar → List Value → Prop
 | [], vs => vs = []
 | .tmp t :: rs, vs => ∃ v vs', vs = v :: vs' ∧ env t = v ∧ RVs C env L rs vs'
 | .cell a T :: rs, vs => ∃ v vs' p, vs = v :: vs' ∧ env a = .pointer p ∧ Ld C L p T v ∧ RVs C env L rs vs'
def nF : List Value → Value
 | [v] => v
 | vs => .tuple vs.toArray
theorem n9 : RVs C env L [] [] := rfl
theorem aV {t : Nat} {v : Value} {rs : List ResultVar} {vs : List Value} (h : env t = v) (k : RVs C env L rs vs) : RVs C env L (.tmp t :: rs) (v :: vs) := ⟨v, vs, rfl, h, k⟩
theorem j7 {t : Nat} {T : TypeId} {p : y8} {v : Value} {rs : List ResultVar} {vs : List Value} (h : env t = .pointer p) (hl : Ld C L p T v) (k : RVs C env L rs vs) : RVs C env L (.cell t T :: rs) (v :: vs) := ⟨v, vs, p, rfl, h, hl, k⟩
def BZ (tmps : Array Value) : ResultVar → Sem Value
 | .tmp t => pure (tmps.getD t undef)
 | .cell p t => do loadVar t (← asAddr (tmps.getD p undef))
theorem zd7 (fn : Func) (tmps : Array Value) : results fn tmps = (do
  let vs ← fn.results.mapM (BZ tmps)
  pure (if h : vs.size = 1 then vs[0] else .tuple vs)) := rfl
theorem BD {a : Act} (ha : Fits C.n a env) {w : World} (hw : St C.w0 C.M L w) : ∀ (rs : List ResultVar) (vs : List Value), RVs C env L rs vs →
  (rs.mapM (BZ a.tmps)).run C.P w = .ok vs w
 | [], vs, h => by subst h; rfl
 | .tmp t :: rs, vs, h => by
  obtain ⟨v, vs', rfl, h1, h2⟩ := h
  have ih := BD ha hw rs vs' h2
  have ht := ha.2.2 t
  rw [h1] at ht
  simp only [List.mapM_cons, Sem.run_bind, BZ, ht, Sem.run_pure, Result.andThen_ok, ih]
 | .cell p T :: rs, vs, h => by
  obtain ⟨v, vs', q, rfl, h1, hl, h2⟩ := h
  obtain ⟨p', rfl, hp⟩ := hl w hw
  have ih := BD ha hw rs vs' h2
  have ht := ha.2.2 p
  rw [h1] at ht
  simp only [List.mapM_cons, Sem.run_bind, BZ, ht, asAddr, Sem.run_pure, Result.andThen_ok, hp, ih]
theorem zb4 {a : Act} (ha : Fits C.n a env) {w : World} (hw : St C.w0 C.M L w) {fn : Func} {vs : List Value} (h : RVs C env L fn.results.toList vs) : (results fn a.tmps).run C.P w = .ok (nF vs) w := by
 have h1 := BD ha hw _ _ h
 rw [zd7, ← Array.toArray_toList (xs := fn.results), List.mapM_toArray]
 simp only [Sem.run_bind, Sem.run_map, h1, Result.andThen_ok, Sem.run_pure]
 match vs with
 | [] => rfl
 | [v] => rfl
 | v :: u :: l => simp [nF]
def eQ (D : Nat) : Assn := IsObj D (.deferred (some []))
inductive finQ (C : Ctx) (rs : List ResultVar) (φ : Value → List Assn → Prop) : Exit → Env → List Assn → Prop
 | ret {env : Env} {L : List Assn} {vs : List Value} {L' : List Assn} (h : RVs C env L rs vs) (hs : Sub L' L) (hφ : φ (nF vs) L') (hd : env.ds = [] := by rfl) : finQ C rs φ .ret env L
 | normal {env : Env} {L : List Assn} {vs : List Value} {L' : List Assn} (h : RVs C env L rs vs) (hs : Sub L' L) (hφ : φ (nF vs) L') (hd : env.ds = [] := by rfl) : finQ C rs φ .normal env L
 | retM {env : Env} {L L1 : List Assn} {vs : List Value} {L' : List Assn} {Ds : List Nat} (hd : env.ds = Ds) (hm : Sub (Ds.map eQ ++ L1) L) (h : RVs C env L1 rs vs) (hs : Sub L' L1) (hφ : φ (nF vs) L') : finQ C rs φ .ret env L
 | normalM {env : Env} {L L1 : List Assn} {vs : List Value} {L' : List Assn} {Ds : List Nat} (hd : env.ds = Ds) (hm : Sub (Ds.map eQ ++ L1) L) (h : RVs C env L1 rs vs) (hs : Sub L' L1) (hφ : φ (nF vs) L') : finQ C rs φ .normal env L
theorem zde {w0 w : World} {M : List Nat} {L : List Assn} {b : Nat} {o : Obj} (h : St w0 M (IsObj b o :: L) w) (o' : Obj) : St w0 M L (w.putObj b o') := by
 have hb : w.heap[b]? = some o := h.ok (A := IsObj b o) (List.mem_cons_self ..)
 have hlt : b < w.heap.size := (Array.getElem?_eq_some_iff.1 hb).1
 have h1 : St w0 M ([] ++ IsObj b o :: L) w := h
 have h2 := h1.upd (w' := w.putObj b o') (A' := IsObj b o') rfl rfl rfl rfl (by simp [World.putObj]) (fun k hk => World.putObj_heap_other (fun e => hk (by rw [e, IsObj.fp]; exact List.mem_cons_self ..))) (World.putObj_heap_same hlt)
 exact h2.sub (Sub.drop _ (Sub.refl _))
theorem pA {F : Fence} {n : Nat} {P : Program} {fn : Func} {tmps : Array Value} {R : Ending → World → Prop} {w0 : World} {M : List Nat} {L1 : List Assn} : ∀ (Ds : List Nat) (w : World), St w0 M (Ds.map eQ ++ L1) w →
  (∀ w', St w0 M L1 w' → ∃ v, (results fn tmps).run P w' = .ok v w' ∧ R (.returned v) w') → LeavesInM F n P fn tmps R (Ds.map sF) .returning w
 | [], w, hw, h => h w hw
 | D :: Ds, w, hw, h => by
  have hb : w.heap[D]? = some (.deferred (some [])) := hw.ok (A := eQ D) (List.mem_cons_self ..)
  exact ⟨by simp, .inl ⟨D, _, rfl, run_takeDeferred hb, pA Ds _ (zde (L := Ds.map eQ ++ L1) hw _) h⟩⟩
def BM (args : Array Value) : Env := ⟨fun t => args.getD t undef, []⟩
theorem N4 {P : Program} {f : FuncId} {fn : Func} {c : Code} {args : Array Value} {w0 : World} {L : List Assn} {φ : Value → List Assn → Prop} {n : Nat} {rs : List ResultVar}
  (hf : P.funcs[f]? = some fn) (hb : fn.body = some c) (hn : fn.ntmps = n) (hr : fn.results.toList = rs) (ha : args.size ≤ n) (hL : Sat w0 L)
  (h : TC ⟨P, n, w0, A8 L, none⟩ c (finQ ⟨P, n, w0, A8 L, none⟩ rs φ) (BM args) L) : Calls P f args w0 (D0 w0 (A8 L) φ) := by
 subst hn hr
 refine (callsIn_wide (n := 0)).1 (callsIn_of_wp_marks hf hb trivial ?_)
 have hfit : Fits fn.ntmps { tmps := args ++ Array.replicate (fn.ntmps - args.size) undef, defers := [] } (BM args) := by
  refine ⟨rfl, by simp; omega, fun t => ?_⟩
  simp only [BM, Array.getD_eq_getD_getElem?]
  by_cases ht : t < args.size
  ·rw [Array.getElem?_append_left ht]
  ·rw [Array.getElem?_append_right ow, Array.getElem?_eq_none (xs := args) ow]
   rw [Array.getElem?_replicate]
   split <;> rfl
 have fin : ∀ {a : Act} {w : World} {env : Env} {L2 L' : List Assn} {vs : List Value}, Fits fn.ntmps a env → RVs ⟨P, fn.ntmps, w0, A8 L, none⟩ env L2 fn.results.toList vs → Sub L' L2 → φ (nF vs) L' → St w0 (A8 L) L2 w →
   ∃ v, (results fn a.tmps).run P w = .ok v w ∧ D0 w0 (A8 L) φ (.returned v) w := fun ha hv hs hφ hw => ⟨_, zb4 ha hw hv, _, _, rfl, hw.sub hs, hφ⟩
 refine wpIn_mono (h _ w0 hfit (eJ hL)) fun e a w ⟨env, L1, h1, h2, h3⟩ => ?_
 cases e with
 | normal =>
  cases h3 with
  | normal hv hs hφ hd =>
   show LeavesInM _ _ _ _ _ _ a.defers _ _
   rw [h1.1, hd]
   exact pA [] w h2 fun w' hw' => fin h1 hv hs hφ hw'
  | normalM hd hm hv hs hφ =>
   show LeavesInM _ _ _ _ _ _ a.defers _ _
   rw [h1.1, hd]
   exact pA _ w (h2.sub hm) fun w' hw' => fin h1 hv hs hφ hw'
 | ret =>
  cases h3 with
  | ret hv hs hφ hd =>
   show LeavesInM _ _ _ _ _ _ a.defers _ _
   rw [h1.1, hd]
   exact pA [] w h2 fun w' hw' => fin h1 hv hs hφ hw'
  | retM hd hm hv hs hφ =>
   show LeavesInM _ _ _ _ _ _ a.defers _ _
   rw [h1.1, hd]
   exact pA _ w (h2.sub hm) fun w' hw' => fin h1 hv hs hφ hw'
 | exit id => cases h3
 | goto l => cases h3
 | panic c => cases h3
 | outgrown => cases h3
theorem Calls.ret {P : Program} {f : FuncId} {args : Array Value} {w : World} {v : Value} (h : Calls P f args w (D0 w [] fun u L => u = v ∧ L = [])) : Calls P f args w (nX w v) :=
 h.mono fun e w' ⟨u, L', h1, h2, h3, h4⟩ => by subst h3 h4; exact ⟨h1, h2⟩
end Go.E
namespace Go.E
variable {C : Ctx} {Q : EQ} {env : Env} {L : List Assn} {ops : Array Oper} {rest : List Oper} {d : Nat} {op : Op} {ty : TypeId} {po : String} {af : Array Edge} {v : Value} {gd : Nat × Bool}
theorem LY (hd : Nat.blt d C.n = true) (hnd : q8 ⟨some d, op, ty, po, af, none⟩ = false) (h : Qt C L ⟨some d, op, ty, po, af, none⟩ env v)
  (k : TL C ops Q rest (env.put d v) L) : TL C ops Q (⟨some d, op, ty, po, af, none⟩ :: rest) env L := KP rfl hd hnd h k
theorem E8 (hg : A3 ops env ⟨some d, op, ty, po, af, some gd⟩ = true) (hd : Nat.blt d C.n = true) (hnd : q8 ⟨some d, op, ty, po, af, some gd⟩ = false) (h : Qt C L ⟨some d, op, ty, po, af, some gd⟩ env v)
  (k : TL C ops Q rest (env.put d v) L) : TL C ops Q (⟨some d, op, ty, po, af, some gd⟩ :: rest) env L := IQ hg hd hnd h k
theorem IM (hg : A3 ops env ⟨some d, op, ty, po, af, some gd⟩ = false) (hd : Nat.blt d C.n = true)
  (k : TL C ops Q rest (env.put d undef) L) : TL C ops Q (⟨some d, op, ty, po, af, some gd⟩ :: rest) env L := zh9 hg hd k
theorem CY (hd : Nat.blt d C.n = true) (hnd : q8 ⟨some d, op, ty, po, af, none⟩ = false)
  (h : OpV C ⟨some d, op, ty, po, af, none⟩ env L fun v L' => TL C ops Q rest (env.put d v) L') : TL C ops Q (⟨some d, op, ty, po, af, none⟩ :: rest) env L := BF rfl hd hnd h
theorem zjM (hg : A3 ops env ⟨some d, op, ty, po, af, some gd⟩ = true) (hd : Nat.blt d C.n = true) (hnd : q8 ⟨some d, op, ty, po, af, some gd⟩ = false)
  (h : OpV C ⟨some d, op, ty, po, af, some gd⟩ env L fun v L' => TL C ops Q rest (env.put d v) L') : TL C ops Q (⟨some d, op, ty, po, af, some gd⟩ :: rest) env L := CZ hg hd hnd h
theorem j9 (hnd : q8 ⟨none, op, ty, po, af, none⟩ = false)
  (h : OpV C ⟨none, op, ty, po, af, none⟩ env L fun v L' => TL C ops Q rest env L') : TL C ops Q (⟨none, op, ty, po, af, none⟩ :: rest) env L := BF rfl rfl hnd h
/-! a test: parted, or decided -/
theorem j0 {p : Prop} {_ : Decidable p} (hd : Nat.blt d C.n = true) (hnd : q8 ⟨some d, op, ty, po, af, none⟩ = false) (h : Qt C L ⟨some d, op, ty, po, af, none⟩ env (.bool (decide p)))
  (k1 : p → TL C ops Q rest (env.put d (.bool true)) L) (k2 : ¬ p → TL C ops Q rest (env.put d (.bool false)) L) : TL C ops Q (⟨some d, op, ty, po, af, none⟩ :: rest) env L := by
 by_cases hp : p
 ·exact KP rfl hd hnd (by rw [decide_eq_true hp] at h; exact h) (k1 hp)
 ·exact KP rfl hd hnd (by rw [decide_eq_false hp] at h; exact h) (k2 hp)
theorem D9 {p : Prop} {_ : Decidable p} (hg : A3 ops env ⟨some d, op, ty, po, af, some gd⟩ = true) (hd : Nat.blt d C.n = true) (hnd : q8 ⟨some d, op, ty, po, af, some gd⟩ = false) (h : Qt C L ⟨some d, op, ty, po, af, some gd⟩ env (.bool (decide p)))
  (k1 : p → TL C ops Q rest (env.put d (.bool true)) L) (k2 : ¬ p → TL C ops Q rest (env.put d (.bool false)) L) : TL C ops Q (⟨some d, op, ty, po, af, some gd⟩ :: rest) env L := by
 by_cases hp : p
 ·exact IQ hg hd hnd (by rw [decide_eq_true hp] at h; exact h) (k1 hp)
 ·exact IQ hg hd hnd (by rw [decide_eq_false hp] at h; exact h) (k2 hp)
theorem Qt.dT {o : Oper} {p : Prop} {_ : Decidable p} (h : Qt C L o env (.bool (decide p))) (hp : p) : Qt C L o env (.bool true) := by rw [decide_eq_true hp] at h; exact h
theorem Qt.dF {o : Oper} {p : Prop} {_ : Decidable p} (h : Qt C L o env (.bool (decide p))) (hp : ¬ p) : Qt C L o env (.bool false) := by rw [decide_eq_false hp] at h; exact h
theorem uO {gj : Option (Nat × Bool)} {dst : Option Tmp} {x : Operand} {t : TypeId} (hx : env.ev x = .bool true) : Qt C L ⟨dst, .unOp .not t x, ty, po, af, gj⟩ env (.bool false) := pV hx
theorem uN {gj : Option (Nat × Bool)} {dst : Option Tmp} {x : Operand} {t : TypeId} (hx : env.ev x = .bool false) : Qt C L ⟨dst, .unOp .not t x, ty, po, af, gj⟩ env (.bool true) := pV hx
theorem l3 (h : Q .normal env L) : TL C ops Q [] env L := zi8 h
theorem Q3 {c : Operand} {x y : Code} (hc : env.ev c = .bool true) (h : TC C x Q env L) : TC C (.cond c x y) Q env L := BE hc h
theorem C4 {c : Operand} {x y : Code} (hc : env.ev c = .bool false) (h : TC C y Q env L) : TC C (.cond c x y) Q env L := BE hc h
/-! regions that draw -/
def SubQ (Q : EQ) : EQ := fun x env L => ∃ L0, Sub L0 L ∧ Q x env L0
theorem zh6 {c : Code} (h : TC C c (SubQ Q) env L) : TC C c Q env L := fun a w ha hw =>
 wpIn_mono (h a w ha hw) fun _ _ _ ⟨e, L1, h1, h2, L0, h3, h4⟩ => ⟨e, L0, h1, h2.sub h3, h4⟩
def AWl (C : Ctx) (ops : Array Oper) (Q : EQ) (E : List Nat × List Nat) (F : List Assn) (dn : List Nat) (env : Env) (L : List Assn) : Prop := ∃ X, L.Perm (F ++ X) ∧ AWk C ops (SubQ Q) E F dn env X
theorem D1 {id : Nat} {F : List Assn} (E : List Nat × List Nat) (hm : C.P.follows .mixedOrders = true) (s : Sub F L) (h : AWl C ops Q E F [] env L) : TC C (.region id ops true) Q env L := by
 obtain ⟨X, hX, hA⟩ := h
 exact zh6 (zh4 F X hm (e5 hX) hA)
variable {E : List Nat × List Nat} {F : List Assn} {dn : List Nat} {k : Nat} {o : Oper}
theorem LL (ho : ops[k]? = some ⟨some d, op, ty, po, af, none⟩) (hk : (R0 ops dn k && F4 ops ⟨some d, op, ty, po, af, none⟩) = true) (hsel : H6 ops = true) (hd : Nat.blt d C.n = true) (hnd : q8 ⟨some d, op, ty, po, af, none⟩ = false)
  (hy : Qt C F ⟨some d, op, ty, po, af, none⟩ env v) (h : AWl C ops Q E F (k :: dn) (env.put d v) L) (hE : has E.1 k = false ∧ has E.2 k = false := by exact ⟨rfl, rfl⟩) : AWl C ops Q E F dn env L := let ⟨X, hX, hA⟩ := h; ⟨X, hX, AWk.q ho hk hsel hd hnd hE rfl hy hA⟩
theorem IG (ho : ops[k]? = some ⟨some d, op, ty, po, af, some gd⟩) (hk : (R0 ops dn k && F4 ops ⟨some d, op, ty, po, af, some gd⟩) = true) (hsel : H6 ops = true) (hd : Nat.blt d C.n = true) (hnd : q8 ⟨some d, op, ty, po, af, some gd⟩ = false)
  (hw : A3 ops env ⟨some d, op, ty, po, af, some gd⟩ = false) (h : AWl C ops Q E F (k :: dn) (env.put d undef) L) : AWl C ops Q E F dn env L := let ⟨X, hX, hA⟩ := h; ⟨X, hX, AWk.pass ho hk hsel hd hnd hw hA⟩
theorem KC (s : Sub F L) (ho : ops[k]? = some o) (hk : bH ops dn k = true) (hr : (S7 dn o && F4 ops o) = true) (hd : vF o.dst C.n = true) (hnd : q8 o = false) (hw : A3 ops env o = true)
  (h : OpV C o env L fun v L' => Sub F L' ∧ AWl C ops Q E F (k :: dn) (env.putO o.dst v) L') (hE : has E.1 k = true := by rfl) : AWl C ops Q E F dn env L := by
 obtain ⟨X, hX⟩ := s
 refine ⟨X, hX, zgo ho hE hk hr hd hnd hw ((h.sub (e5 hX.symm)).mono fun v L' ⟨hs, X', hX', hA⟩ => ⟨X', e5 hX', hA⟩)⟩
theorem FZ (s : Sub F L) (ho : ops[k]? = some ⟨some d, op, ty, po, af, none⟩) (hk : bH ops dn k = true) (hr : (S7 dn ⟨some d, op, ty, po, af, none⟩ && F4 ops ⟨some d, op, ty, po, af, none⟩) = true) (hd : Nat.blt d C.n = true) (hnd : q8 ⟨some d, op, ty, po, af, none⟩ = false)
  (h : OpV C ⟨some d, op, ty, po, af, none⟩ env L fun v L' => Sub F L' ∧ AWl C ops Q E F (k :: dn) (env.put d v) L') (hE : has E.1 k = true := by rfl) : AWl C ops Q E F dn env L := KC s ho hk hr hd hnd rfl h hE
theorem fH (s : Sub F L) (ho : ops[k]? = some ⟨none, op, ty, po, af, none⟩) (hk : bH ops dn k = true) (hr : (S7 dn ⟨none, op, ty, po, af, none⟩ && F4 ops ⟨none, op, ty, po, af, none⟩) = true) (hnd : q8 ⟨none, op, ty, po, af, none⟩ = false)
  (h : OpV C ⟨none, op, ty, po, af, none⟩ env L fun v L' => Sub F L' ∧ AWl C ops Q E F (k :: dn) env L') (hE : has E.1 k = true := by rfl) : AWl C ops Q E F dn env L := KC s ho hk hr rfl hnd rfl h hE
/-! operations that only add to what is known -/
theorem Sub.append {F X Y : List Assn} (h : Sub X Y) : Sub (F ++ X) (F ++ Y) := by
 obtain ⟨R, hR⟩ := h
 exact ⟨R, by rw [List.append_assoc]; exact hR.append_left F⟩
theorem uP {F X Y : List Assn} (h : Sub (F ++ X) (F ++ Y)) : Sub X Y := by
 obtain ⟨R, hR⟩ := h
 rw [List.append_assoc] at hR
 exact ⟨R, (List.perm_append_left_iff F).1 hR⟩
theorem IF (ho : ops[k]? = some o) (hk : bH ops dn k = true) (hr : (S7 dn o && F4 ops o) = true) (hd : vF o.dst C.n = true) (hnd : q8 o = false) (hw : A3 ops env o = true)
  (s : Sub F L) (h : OpV C o env L fun v L' => Sub L L' ∧ AWl C ops Q E F (k :: dn) (env.putO o.dst v) L') (hE1 : has E.1 k = false := by rfl) (hE : has E.2 k = true := by rfl) : AWl C ops Q E F dn env L := by
 obtain ⟨X, hX⟩ := s
 refine ⟨X, hX, uG ho hE1 hE hk hr hd hnd hw ((h.sub (e5 hX.symm)).mono fun v L' ⟨hs, X', hX', hA⟩ => ⟨X', e5 hX', ?_, hA⟩)⟩
 exact uP (((e5 hX).trans hs).trans (e5 hX'.symm))
theorem tH (s : Sub F L) (ho : ops[k]? = some ⟨some d, op, ty, po, af, none⟩) (hk : bH ops dn k = true) (hr : (S7 dn ⟨some d, op, ty, po, af, none⟩ && F4 ops ⟨some d, op, ty, po, af, none⟩) = true) (hd : Nat.blt d C.n = true) (hnd : q8 ⟨some d, op, ty, po, af, none⟩ = false)
  (h : OpV C ⟨some d, op, ty, po, af, none⟩ env L fun v L' => Sub L L' ∧ AWl C ops Q E F (k :: dn) (env.put d v) L') (hE1 : has E.1 k = false := by rfl) (hE : has E.2 k = true := by rfl) : AWl C ops Q E F dn env L := IF ho hk hr hd hnd rfl s h hE1 hE
theorem JR (s : Sub F L) (ho : ops[k]? = some ⟨some d, op, ty, po, af, some gd⟩) (hk : bH ops dn k = true) (hr : (S7 dn ⟨some d, op, ty, po, af, some gd⟩ && F4 ops ⟨some d, op, ty, po, af, some gd⟩) = true) (hd : Nat.blt d C.n = true) (hnd : q8 ⟨some d, op, ty, po, af, some gd⟩ = false)
  (hw : A3 ops env ⟨some d, op, ty, po, af, some gd⟩ = true) (h : OpV C ⟨some d, op, ty, po, af, some gd⟩ env L fun v L' => Sub L L' ∧ AWl C ops Q E F (k :: dn) (env.put d v) L') (hE1 : has E.1 k = false := by rfl) (hE : has E.2 k = true := by rfl) : AWl C ops Q E F dn env L := IF ho hk hr hd hnd hw s h hE1 hE
/-! nothing that may come before it changes what is known: all that is known may be used -/
theorem JS (ho : ops[k]? = some ⟨some d, op, ty, po, af, none⟩) (hk : (R0 ops dn k && F4 ops ⟨some d, op, ty, po, af, none⟩) = true) (hsel : H6 ops = true) (hc : eO ops E dn k = true) (hd : Nat.blt d C.n = true) (hnd : q8 ⟨some d, op, ty, po, af, none⟩ = false)
  (hy : Qt C L ⟨some d, op, ty, po, af, none⟩ env v) (h : AWl C ops Q E F (k :: dn) (env.put d v) L) (hE : has E.1 k = false ∧ has E.2 k = false := by exact ⟨rfl, rfl⟩) : AWl C ops Q E F dn env L :=
 let ⟨X, hX, hA⟩ := h; ⟨X, hX, nR ho hk (V0 hsel) hd hnd hE hc rfl (fun Y hY => (hy.wk ((e5 hX.symm).trans (Sub.append hY))).cal) hA⟩
theorem GA (ho : ops[k]? = some ⟨some d, op, ty, po, af, some gd⟩) (hk : (R0 ops dn k && F4 ops ⟨some d, op, ty, po, af, some gd⟩) = true) (hsel : H6 ops = true) (hc : eO ops E dn k = true) (hd : Nat.blt d C.n = true) (hnd : q8 ⟨some d, op, ty, po, af, some gd⟩ = false)
  (hw : A3 ops env ⟨some d, op, ty, po, af, some gd⟩ = true)
  (hy : Qt C L ⟨some d, op, ty, po, af, some gd⟩ env v) (h : AWl C ops Q E F (k :: dn) (env.put d v) L) (hE : has E.1 k = false ∧ has E.2 k = false := by exact ⟨rfl, rfl⟩) : AWl C ops Q E F dn env L :=
 let ⟨X, hX, hA⟩ := h; ⟨X, hX, nR ho hk (V0 hsel) hd hnd hE hc hw (fun Y hY => (hy.wk ((e5 hX.symm).trans (Sub.append hY))).cal) hA⟩
theorem aY {p : Prop} {_ : Decidable p} (ho : ops[k]? = some ⟨some d, op, ty, po, af, none⟩) (hk : (R0 ops dn k && F4 ops ⟨some d, op, ty, po, af, none⟩) = true) (hsel : H6 ops = true) (hc : eO ops E dn k = true) (hd : Nat.blt d C.n = true) (hnd : q8 ⟨some d, op, ty, po, af, none⟩ = false)
  (hy : Qt C L ⟨some d, op, ty, po, af, none⟩ env (.bool (decide p)))
  (k1 : p → AWl C ops Q E F (k :: dn) (env.put d (.bool true)) L) (k2 : ¬ p → AWl C ops Q E F (k :: dn) (env.put d (.bool false)) L) (hE : has E.1 k = false ∧ has E.2 k = false := by exact ⟨rfl, rfl⟩) : AWl C ops Q E F dn env L := by
 by_cases hp : p
 ·exact JS ho hk hsel hc hd hnd (hy.dT hp) (k1 hp) hE
 ·exact JS ho hk hsel hc hd hnd (hy.dF hp) (k2 hp) hE
theorem dN {p : Prop} {_ : Decidable p} (ho : ops[k]? = some ⟨some d, op, ty, po, af, some gd⟩) (hk : (R0 ops dn k && F4 ops ⟨some d, op, ty, po, af, some gd⟩) = true) (hsel : H6 ops = true) (hc : eO ops E dn k = true) (hd : Nat.blt d C.n = true) (hnd : q8 ⟨some d, op, ty, po, af, some gd⟩ = false)
  (hw : A3 ops env ⟨some d, op, ty, po, af, some gd⟩ = true) (hy : Qt C L ⟨some d, op, ty, po, af, some gd⟩ env (.bool (decide p)))
  (k1 : p → AWl C ops Q E F (k :: dn) (env.put d (.bool true)) L) (k2 : ¬ p → AWl C ops Q E F (k :: dn) (env.put d (.bool false)) L) (hE : has E.1 k = false ∧ has E.2 k = false := by exact ⟨rfl, rfl⟩) : AWl C ops Q E F dn env L := by
 by_cases hp : p
 ·exact GA ho hk hsel hc hd hnd hw (hy.dT hp) (k1 hp) hE
 ·exact GA ho hk hsel hc hd hnd hw (hy.dF hp) (k2 hp) hE
theorem KN (ho : ops[k]? = some ⟨some d, op, ty, po, af, none⟩) (hk : (R0 ops dn k && F4 ops ⟨some d, op, ty, po, af, none⟩) = true) (hsel : H6 ops = true) (hc : eO ops E dn k = true) (hd : Nat.blt d C.n = true) (hnd : q8 ⟨some d, op, ty, po, af, none⟩ = false)
  (hy : ∀ L', Sub L L' → Cal C ⟨some d, op, ty, po, af, none⟩ env v L') (h : AWl C ops Q E F (k :: dn) (env.put d v) L) (hE : has E.1 k = false ∧ has E.2 k = false := by exact ⟨rfl, rfl⟩) : AWl C ops Q E F dn env L :=
 let ⟨X, hX, hA⟩ := h; ⟨X, hX, nR ho hk (V0 hsel) hd hnd hE hc rfl (fun Y hY => hy _ ((e5 hX.symm).trans (Sub.append hY))) hA⟩
theorem IE (ho : ops[k]? = some ⟨some d, op, ty, po, af, some gd⟩) (hk : (R0 ops dn k && F4 ops ⟨some d, op, ty, po, af, some gd⟩) = true) (hsel : H6 ops = true) (hc : eO ops E dn k = true) (hd : Nat.blt d C.n = true) (hnd : q8 ⟨some d, op, ty, po, af, some gd⟩ = false)
  (hw : A3 ops env ⟨some d, op, ty, po, af, some gd⟩ = true) (hy : ∀ L', Sub L L' → Cal C ⟨some d, op, ty, po, af, some gd⟩ env v L') (h : AWl C ops Q E F (k :: dn) (env.put d v) L) (hE : has E.1 k = false ∧ has E.2 k = false := by exact ⟨rfl, rfl⟩) : AWl C ops Q E F dn env L :=
 let ⟨X, hX, hA⟩ := h; ⟨X, hX, nR ho hk (V0 hsel) hd hnd hE hc hw (fun Y hY => hy _ ((e5 hX.symm).trans (Sub.append hY))) hA⟩
theorem SubQ.perm {env : Env} {X Y : List Assn} (p : X.Perm Y) (h : SubQ Q .normal env X) : SubQ Q .normal env Y := by
 obtain ⟨L0, h1, h2⟩ := h
 exact ⟨L0, h1.trans (e5 p.symm), h2⟩
theorem KD {k1 k2 d1 d2 : Nat} {T1 T2 ty1 ty2 : TypeId} {pos1 pos2 : String} {after1 after2 : Array Edge} {zs1 zs2 : List Value} (s : Sub F L) (ho1 : ops[k1]? = some ⟨some d1, .alloc T1, ty1, pos1, after1, none⟩) (ho2 : ops[k2]? = some ⟨some d2, .alloc T2, ty2, pos2, after2, none⟩)
  (hk : jE ops dn k1 k2 = true) (hk1 : bH ops (k1 :: dn) k2 = true) (hk2 : bH ops (k2 :: dn) k1 = true) (hr1 : (S7 (k2 :: dn) ⟨some d1, .alloc T1, ty1, pos1, after1, none⟩ && F4 ops ⟨some d1, .alloc T1, ty1, pos1, after1, none⟩) = true) (hr2 : (S7 (k1 :: dn) ⟨some d2, .alloc T2, ty2, pos2, after2, none⟩ && F4 ops ⟨some d2, .alloc T2, ty2, pos2, after2, none⟩) = true)
  (hr : (S7 dn ⟨some d1, .alloc T1, ty1, pos1, after1, none⟩ && (!has dn k1)) = true) (hd1 : Nat.blt d1 C.n = true) (hd2 : Nat.blt d2 C.n = true) (hne : Nat.beq d1 d2 = false) (N3 : E3 C.P T1 = some zs1) (aH : E3 C.P T2 = some zs2)
  (h : ∀ b1 b2, AWl C ops Q E F (k2 :: k1 :: dn) ((env.put d1 (.pointer (some ⟨b1, 0, none⟩))).put d2 (.pointer (some ⟨b2, 0, none⟩))) (Blk b2 T2 zs2 :: Blk b1 T1 zs1 :: L))
  (hE1 : has E.1 k1 = false ∧ has E.2 k1 = true := by exact ⟨rfl, rfl⟩) (hE2 : has E.1 k2 = false ∧ has E.2 k2 = true := by exact ⟨rfl, rfl⟩) : AWl C ops Q E F dn env L := by
 obtain ⟨X, hX⟩ := s
 have hne' : d1 ≠ d2 := fun e => by rw [e, Nat.beq_refl] at hne; cases hne
 refine ⟨X, hX, zhX ho1 ho2 (fun _ _ _ p h => SubQ.perm p h) hk hk1 hk2 hr1 hr2 hr hd1 hd2 rfl rfl (fun _ => rfl) (fun _ => rfl) (fun d hd hd' => ?_) hE1 hE2 (fun _ => News.alloc N3) (fun _ => News.alloc aH) ?_⟩
 ·injection hd with hd; injection hd' with hd'; exact hne' (hd.trans hd'.symm)
 ·rintro v1 n1 v2 n2 ⟨b1, rfl, rfl⟩ ⟨b2, rfl, rfl⟩
  obtain ⟨Y, hY, hA⟩ := h b1 b2
  refine AW.perm _ _ _ _ _ ?_ hA (fun _ _ _ p h => SubQ.perm p h)
  have h1 : (F ++ Y).Perm (F ++ ([Blk b2 T2 zs2] ++ ([Blk b1 T1 zs1] ++ X))) := by
   refine hY.symm.trans ?_
   refine (((hX.cons _).cons _)).trans ?_
   exact List.perm_append_comm_assoc [Blk b2 T2 zs2, Blk b1 T1 zs1] F X
  exact (List.perm_append_left_iff F).1 h1
theorem R2 (s : Sub F L) (hk : JU ops dn = true) (h : Q .normal env L) : AWl C ops Q E F dn env L := by
 obtain ⟨X, hX⟩ := s
 exact ⟨X, hX, AWk.done hk ⟨L, e5 hX.symm, h⟩⟩
end Go.E
namespace Go.E
set_option linter.unusedSectionVars false
structure KeyLaw {κ : Type} [DecidableEq κ] (P : Program) (K : TypeId) (enc : κ → Value) : Prop where
 desc : ∃ d, P.underlying K = some d ∧ ((∀ a b, Instr.sameNow d (enc a) (enc b) = some (decide (a = b))) ∨ (∀ a b, Instr.sameNow d (enc a) (enc b) = none))
 eq : ∀ a b w, (Op.equal K (enc a) (enc b)).run P w = .ok (decide (a = b)) w
 check : ∀ e a w, (Instr.checkKey e 10000 K (enc a)).run P w = .ok () w
 bits : ∀ a, Instr.sameBits 10000 (enc a) (enc a) = true
section
variable {κ α : Type} [DecidableEq κ] {P : Program} {K : TypeId} {enc : κ → Value} {encv : α → Value}
def entsOf (enc : κ → Value) (encv : α → Value) (ms : List (κ × α)) (es : List MapEntry) : Prop :=
 es.map (fun e => (e.key, e.val)) = ms.map fun p => (enc p.1, encv p.2)
theorem entsOf.cons {p : κ × α} {ms : List (κ × α)} {es : List MapEntry} (h : entsOf enc encv (p :: ms) es) :
  ∃ e es', es = e :: es' ∧ e.key = enc p.1 ∧ e.val = encv p.2 ∧ entsOf enc encv ms es' := by
 cases es with
 | nil => simp [entsOf] at h
 | cons e es' =>
  simp only [entsOf, List.map_cons, List.cons.injEq, Prod.mk.injEq] at h
  exact ⟨e, es', rfl, h.1.1, h.1.2, h.2⟩
theorem entsOf.nil {es : List MapEntry} (h : entsOf enc encv ([] : List (κ × α)) es) : es = [] := by simpa [entsOf] using h
theorem entsOf.length {ms : List (κ × α)} {es : List MapEntry} (h : entsOf enc encv ms es) : es.length = ms.length := by
 have := congrArg List.length h; simpa using this
def S5 (k : κ) : List (κ × α) → Nat → Option (Nat × α)
 | [], _ => none
 | p :: ms, i => if k = p.1 then some (i, p.2) else S5 k ms (i + 1)
theorem oK {d : TypeDesc} (hd : ∀ a b, Instr.sameNow d (enc a) (enc b) = some (decide (a = b))) (k : κ) : ∀ (ms : List (κ × α)) (es : List MapEntry) (i : Nat), entsOf enc encv ms es →
  Instr.findNow d (enc k) es i = some ((S5 k ms i).map fun p => (p.1, encv p.2))
 | [], es, i, h => by rw [h.nil]; rfl
 | p :: ms, es, i, h => by
  obtain ⟨e, es', rfl, h1, h2, h3⟩ := h.cons
  simp only [Instr.findNow, h1, hd, S5]
  by_cases hk : k = p.1
  ·simp [hk, h2]
  ·simp only [hk, decide_false, if_false]; exact oK hd k ms es' (i + 1) h3
theorem kF (law : KeyLaw P K enc) (k : κ) (w : World) : ∀ (ms : List (κ × α)) (es : List MapEntry) (i : Nat), entsOf enc encv ms es →
  (Instr.findAsking K (enc k) es i).run P w = .ok ((S5 k ms i).map fun p => (p.1, encv p.2)) w
 | [], es, i, h => by rw [h.nil]; rfl
 | p :: ms, es, i, h => by
  obtain ⟨e, es', rfl, h1, h2, h3⟩ := h.cons
  simp only [Instr.findAsking, h1, Sem.run_bind, law.eq, Result.andThen_ok, S5]
  by_cases hk : k = p.1
  ·simp [hk, h2]
  ·have ih := kF law k w ms es' (i + 1) h3
   simp [hk, ih]
theorem zbg {d : TypeDesc} (hd : ∀ a b, Instr.sameNow d (enc a) (enc b) = none) (k : κ) (ms : List (κ × α)) (es : List MapEntry) (h : entsOf enc encv ms es) :
  Instr.findNow d (enc k) es 0 = none ∨ (ms = [] ∧ Instr.findNow d (enc k) es 0 = some none) := by
 cases ms with
 | nil => rw [h.nil]; exact .inr ⟨rfl, rfl⟩
 | cons p ms =>
  obtain ⟨e, es', rfl, h1, _, _⟩ := h.cons
  refine .inl ?_
  simp [Instr.findNow, h1, hd]
theorem bC (law : KeyLaw P K enc) (k : κ) (w : World) (ms : List (κ × α)) (es : List MapEntry) (h : entsOf enc encv ms es) :
  (Instr.findKey K (enc k) es).run P w = .ok ((S5 k ms 0).map fun p => (p.1, encv p.2)) w := by
 obtain ⟨d, hu, hd⟩ := law.desc
 unfold Instr.findKey
 simp only [Sem.run_bind, run_underlying hu, Result.andThen_ok]
 rcases hd with hd | hd
 ·rw [oK hd k ms es 0 h]; rfl
 ·rcases zbg hd k ms es h with h1 | ⟨rfl, h1⟩
  ·rw [h1]; exact kF law k w ms es 0 h
  ·rw [h1]; rfl
def look (k : κ) (ms : List (κ × α)) : Option α := (S5 k ms 0).map (·.2)
theorem dU (k : κ) : ∀ (ms : List (κ × α)) (i : Nat), S5 k ms (i + 1) = (S5 k ms i).map fun p => (p.1 + 1, p.2)
 | [], _ => rfl
 | p :: ms, i => by
  simp only [S5]
  split
  ·rfl
  ·exact dU k ms (i + 1)
theorem U8 (k : κ) : look k ([] : List (κ × α)) = none := rfl
theorem A6 (k : κ) (p : κ × α) (ms : List (κ × α)) : look k (p :: ms) = if k = p.1 then some p.2 else look k ms := by
 unfold look
 simp only [S5]
 split
 ·rfl
 ·rw [dU]; simp [Function.comp_def]
theorem Q5 (k : κ) : ∀ (a b : List (κ × α)), look k (a ++ b) = (look k a).or (look k b)
 | [], b => by simp [U8]
 | p :: a, b => by
  rw [List.cons_append, A6, A6, Q5 k a b]
  split <;> simp
def upd (k : κ) (a : α) (ms : List (κ × α)) : List (κ × α) := match S5 k ms 0 with
 | some (i, _) => ms.modify i fun p => (p.1, a)
 | none => ms ++ [(k, a)]
def KV (k : κ) (ms : List (κ × α)) : List (κ × α) := match S5 k ms 0 with
 | some (i, _) => ms.eraseIdx i
 | none => ms
def gQ (k : κ) (a : α) : List (κ × α) → List (κ × α)
 | [] => [(k, a)]
 | p :: ms => if k = p.1 then (p.1, a) :: ms else p :: gQ k a ms
def Y9 (k : κ) : List (κ × α) → List (κ × α)
 | [] => []
 | p :: ms => if k = p.1 then ms else p :: Y9 k ms
theorem FX (k : κ) (a : α) : ∀ ms : List (κ × α), upd k a ms = gQ k a ms
 | [] => rfl
 | p :: ms => by
  have ih := FX k a ms
  unfold upd at ih ⊢
  simp only [S5, gQ]
  by_cases hk : k = p.1
  ·simp [hk]
  ·rw [if_neg hk, if_neg hk, dU]
   cases hf : S5 k ms 0 with
   | none => rw [hf] at ih; simpa using ih
   | some q => rw [hf] at ih; simpa using ih
theorem vE (k : κ) : ∀ ms : List (κ × α), KV k ms = Y9 k ms
 | [] => rfl
 | p :: ms => by
  have ih := vE k ms
  unfold KV at ih ⊢
  simp only [S5, Y9]
  by_cases hk : k = p.1
  ·simp [hk]
  ·rw [if_neg hk, if_neg hk, dU]
   cases hf : S5 k ms 0 with
   | none => rw [hf] at ih; simpa using ih
   | some q => rw [hf] at ih; simpa using ih
theorem pE (k k' : κ) (a : α) : ∀ ms : List (κ × α), look k' (gQ k a ms) = if k' = k then some a else look k' ms
 | [] => by simp only [gQ, A6, U8]
 | p :: ms => by
  simp only [gQ]
  by_cases hk : k = p.1
  ·rw [if_pos hk, A6, A6]
   by_cases h2 : k' = p.1
   ·simp [h2, hk]
   ·simp [h2, hk]
  ·rw [if_neg hk, A6, A6, pE k k' a ms]
   by_cases h2 : k' = p.1
   ·have : ¬ k' = k := fun e => hk (e ▸ h2)
    have h3 : ¬ p.1 = k := fun e => hk e.symm
    simp [h2, h3]
   ·simp [h2]
def o9 (ms : List (κ × α)) : List κ := ms.map (·.1)
theorem P3 {k : κ} : ∀ {ms : List (κ × α)}, look k ms = none ↔ k ∉ o9 ms
 | [] => by simp [U8, o9]
 | p :: ms => by
  rw [A6]
  have ih := P3 (k := k) (ms := ms)
  simp only [o9] at ih
  by_cases h : k = p.1 <;> simp [h, o9, ih]
theorem vW (k : κ) (a : α) : ∀ ms : List (κ × α), o9 (gQ k a ms) = if k ∈ o9 ms then o9 ms else o9 ms ++ [k]
 | [] => by simp [gQ, o9]
 | p :: ms => by
  have ih := vW k a ms
  simp only [o9] at ih
  simp only [gQ]
  by_cases hk : k = p.1
  ·simp [hk, o9]
  ·rw [if_neg hk]
   simp only [o9, List.map_cons, ih, List.mem_cons, hk, false_or]
   split <;> rename_i hh <;> simp [hh]
theorem lQ (k : κ) (a : α) {ms : List (κ × α)} (h : (o9 ms).Nodup) : (o9 (gQ k a ms)).Nodup := by
 rw [vW]
 split
 ·exact h
 ·rename_i hn
  exact List.nodup_append.2 ⟨h, by simp, fun x hx y hy e => by simp at hy; subst hy e; exact hn hx⟩
theorem DQ (k : κ) : ∀ {ms : List (κ × α)}, (o9 ms).Nodup → o9 (Y9 k ms) = (o9 ms).filter (fun x => decide (x ≠ k))
 | [], _ => rfl
 | p :: ms, h => by
  simp only [o9, List.map_cons, List.nodup_cons] at h
  have ih := DQ k (ms := ms) h.2
  simp only [o9] at ih
  simp only [Y9]
  by_cases hk : k = p.1
  ·subst hk
   rw [if_pos rfl]
   simp only [o9, List.map_cons, ne_eq, not_true_eq_false, decide_false, Bool.false_eq_true, not_false_eq_true, List.filter_cons_of_neg]
   rw [List.filter_eq_self.2]
   intro x hx
   simp only [decide_eq_true_eq]
   exact fun e => h.1 (e ▸ hx)
  ·rw [if_neg hk]
   have hk' : p.1 ≠ k := fun e => hk e.symm
   simp [o9, hk', ih]
theorem kI (k k' : κ) : ∀ {ms : List (κ × α)}, (o9 ms).Nodup → look k' (Y9 k ms) = if k' = k then none else look k' ms
 | [], _ => by simp [Y9, U8]
 | p :: ms, h => by
  simp only [o9, List.map_cons, List.nodup_cons] at h
  have ih := kI k k' (ms := ms) h.2
  simp only [Y9]
  by_cases hk : k = p.1
  ·subst hk
   rw [if_pos rfl, A6]
   by_cases h2 : k' = p.1
   ·subst h2; rw [if_pos rfl]; exact P3.2 h.1
   ·rw [if_neg h2, if_neg h2]
  ·rw [if_neg hk, A6, A6, ih]
   by_cases h2 : k' = p.1
   ·have : ¬ p.1 = k := fun e => hk e.symm
    simp [h2, this]
   ·simp [h2]
theorem iD (k : κ) {ms : List (κ × α)} (h : (o9 ms).Nodup) : (o9 (Y9 k ms)).Nodup := by
 rw [DQ k h]; exact h.filter _
def u6 (b : Nat) (enc : κ → Value) (encv : α → Value) (ms : List (κ × α)) : Assn where
 fp := [b]
 ok w := ∃ es ck, w.heap[b]? = some (.map es ck) ∧ entsOf enc encv ms es.toList ∧ es.toList.Pairwise (fun x y => x.born < y.born) ∧ (∀ e ∈ es.toList, e.born < ck) ∧ (o9 ms).Nodup
 stable w w' h hk := by rw [h b (List.mem_cons_self ..)]; exact hk
end
section ops
variable {C : Ctx} {Q : EQ} {env : Env} {L : List Assn} {ops : Array Oper} {rest : List Oper}
variable {κ α : Type} [DecidableEq κ] {K E : TypeId} {enc : κ → Value} {encv : α → Value}
variable {dst : Option Tmp} {ty : TypeId} {po : String} {af : Array Edge} {gj : Option (Nat × Bool)} {x y z : Operand} {v : Value} {T : TypeId} {b : Nat} {ms : List (κ × α)} {k : κ} {a : α}
theorem I6 {P : Program} {w : World} {es : Array MapEntry} {ck : Nat} (h : w.heap[b]? = some (.map es ck)) : (getObj b).run P w = .ok (.map es ck) w := by
 simp [getObj, Sem.run, h]
def gI (P : Program) (T : TypeId) : Option Value := (P.info? T).bind (·.zero)
theorem qV {P : Program} {w : World} {z : Value} (h : gI P T = some z) : (zeroValue T).run P w = .ok z w := by
 obtain ⟨i, hi, hz⟩ := Option.bind_eq_some_iff.1 h
 simp [zeroValue, typeInfo, hi, hz]
def HT (encv : α → Value) (z : Value) : Option α → Value
 | some a => encv a
 | none => z
theorem iT {z : Value} (ht : C.P.underlying T = some (.map K E)) (law : KeyLaw C.P K enc) (hz : gI C.P E = some z) (hx : env.ev x = .map (some b)) (hy : env.ev y = enc k) (h : Has C L (u6 b enc encv ms)) :
  Qt C L ⟨dst, .lookup T x y true, ty, po, af, gj⟩ env (.tuple #[HT encv z (look k ms), .bool (look k ms).isSome]) := fun w hw => by
 obtain ⟨es, ck, hb, he, _⟩ := h w hw
 simp only [execOp, hx, hy, Instr.lookup, Sem.run_bind, run_underlying ht, Result.andThen_ok, I6 hb, Sem.run_pure, law.check, bC law k w ms _ he, look]
 cases hf : S5 k ms 0 with
 | none => simp [qV hz, HT]
 | some p => simp [HT]
theorem zdd (ht : C.P.underlying T = some (.map K E)) (hx : env.ev x = .map (some b)) (h : Has C L (u6 b enc encv ms)) :
  Qt C L ⟨dst, .call { callee := .builtin .len, args := #[x], argTypes := #[T] }, ty, po, af, gj⟩ env (.int .i64 ((ms.length : Nat) : Int)) := fun w hw => by
 obtain ⟨es, ck, hb, he, _⟩ := h w hw
 have hl : es.size = ms.length := by rw [← he.length]; simp
 simp [execOp, resolve, invoke, builtin, hx, Builtin.len_, run_underlying ht, I6 hb, goInt, hl]
theorem rG {K' : Value → List Assn → Prop} (h : ∀ b, K' (.map (some b)) (u6 b enc encv ([] : List (κ × α)) :: L)) : OpV C ⟨dst, .makeMap T none, ty, po, af, gj⟩ env L K' := fun w hw => by
 have hrun : (execOp env.ev ⟨dst, .makeMap T none, ty, po, af, gj⟩).run C.P w = .ok (.value (.map (some w.heap.size))) (w.alloc (.map #[] 0)) := by
  simp [execOp, Instr.makeMap]
 rw [hrun]
 have h1 := hw.alloc (.map #[] 0)
 have hok : (u6 w.heap.size enc encv ([] : List (κ × α))).ok (w.alloc (.map #[] 0)) := ⟨#[], 0, heap_alloc_new w _, by simp [entsOf], by simp, by simp, by simp [o9]⟩
 have h2 : St C.w0 C.M ([] ++ IsObj w.heap.size (.map #[] 0) :: L) (w.alloc (.map #[] 0)) := h1
 exact ⟨_, h2.upd (A' := u6 w.heap.size enc encv ([] : List (κ × α))) rfl rfl rfl rfl rfl (fun _ _ => rfl) hok, h w.heap.size⟩
theorem zdP {es : List MapEntry} {ms : List (κ × α)} (h : entsOf enc encv ms es) (i : Nat) (f : MapEntry → MapEntry) (g : κ × α → κ × α) (hfg : ∀ e p, e.key = enc p.1 → e.val = encv p.2 → (f e).key = enc (g p).1 ∧ (f e).val = encv (g p).2) :
  entsOf enc encv (ms.modify i g) (es.modify i f) := by
 induction ms generalizing es i with
 | nil => rw [h.nil]; simp [entsOf]
 | cons p ms ih =>
  obtain ⟨e, es', rfl, h1, h2, h3⟩ := h.cons
  cases i with
  | zero =>
   have := hfg e p h1 h2
   simp only [entsOf] at h3
   simp [entsOf, this.1, this.2, h3]
  | succ i =>
   have := ih h3 i
   simp only [entsOf] at this
   simp [entsOf, h1, h2, this]
theorem vI {k : κ} : ∀ {ms : List (κ × α)} {i j : Nat} {a : α}, S5 k ms i = some (j, a) → i ≤ j ∧ ms[j - i]? = some (k, a)
 | [], _, _, _, h => by cases h
 | p :: ms, i, j, a, h => by
  simp only [S5] at h
  by_cases hk : k = p.1
  ·rw [if_pos hk] at h
   injection h with h
   injection h with h1 h2
   subst h1 h2
   rw [Nat.sub_self]
   exact ⟨Nat.le_refl _, by simp [hk]⟩
  ·rw [if_neg hk] at h
   obtain ⟨h1, h2⟩ := vI h
   refine ⟨by omega, ?_⟩
   rw [show j - i = (j - (i + 1)) + 1 by omega]
   simpa using h2
theorem zgX {es : List MapEntry} {ms : List (κ × α)} (h : entsOf enc encv ms es) {i : Nat} {p : κ × α} (hp : ms[i]? = some p) : ∃ e, es[i]? = some e ∧ e.key = enc p.1 ∧ e.val = encv p.2 := by
 have hl : i < es.length := by rw [h.length]; exact (List.getElem?_eq_some_iff.1 hp).1
 refine ⟨es[i], List.getElem?_eq_getElem hl, ?_⟩
 have := congrArg (fun l => l[i]?) h
 simp only [List.getElem?_map, List.getElem?_eq_getElem hl, hp, Option.map_some, Option.some.injEq, Prod.mk.injEq] at this
 exact this
theorem zaj {es : List MapEntry} {R : MapEntry → MapEntry → Prop} (f : MapEntry → MapEntry) (hf : ∀ e, (f e).born = e.born) (hR : ∀ a b c d : MapEntry, a.born = c.born → b.born = d.born → R a b → R c d) (h : es.Pairwise R) (i : Nat) : (es.modify i f).Pairwise R := by
 induction es generalizing i with
 | nil => simp
 | cons e es ih =>
  rw [List.pairwise_cons] at h
  cases i with
  | zero => simp only [List.modify_zero_cons, List.pairwise_cons]; exact ⟨fun x hx => hR _ _ _ _ (hf e).symm rfl (h.1 x hx), h.2⟩
  | succ i =>
   simp only [List.modify_succ_cons, List.pairwise_cons]
   refine ⟨fun x hx => ?_, ih h.2 i⟩
   obtain ⟨j, hj⟩ := List.mem_iff_getElem?.1 hx
   rw [List.getElem?_modify] at hj
   split at hj
   ·cases hy : es[j]? with
    | none => simp [hy] at hj
    | some y =>
     simp [hy] at hj
     subst hj
     exact hR e y e _ rfl (hf y).symm (h.1 y (List.mem_of_getElem? hy))
   ·exact h.1 x (List.mem_of_getElem? (by simpa using hj))
theorem zcg {es : List MapEntry} {c : Nat} (f : MapEntry → MapEntry) (hf : ∀ e, (f e).born = e.born) (h : ∀ e ∈ es, e.born < c) (i : Nat) : ∀ e ∈ es.modify i f, e.born < c := by
 intro x hx
 obtain ⟨j, hj⟩ := List.mem_iff_getElem?.1 hx
 rw [List.getElem?_modify] at hj
 split at hj
 ·cases hy : es[j]? with
  | none => simp [hy] at hj
  | some y =>
   simp [hy] at hj
   subst hj
   rw [hf]; exact h y (List.mem_of_getElem? hy)
 ·exact h x (List.mem_of_getElem? (by simpa using hj))
theorem St.setObj {w0 w : World} {M : List Nat} {L1 L2 : List Assn} {A A' : Assn} {o : Obj} (h : St w0 M (L1 ++ A :: L2) w) (hfp : A.fp = [b]) (hfp' : A'.fp = [b]) (hb : b < w.heap.size)
  (hok : ∀ w', w'.heap[b]? = some o → A'.ok w') : St w0 M (L1 ++ A' :: L2) { w with heap := w.heap.setIfInBounds b o } := by
 refine h.upd (by rw [hfp, hfp']) rfl rfl rfl (by simp) (fun k hk => ?_) (hok _ (by simp [hb]))
 rw [hfp] at hk
 have hne : b ≠ k := fun e => hk (by rw [e]; exact List.mem_cons_self ..)
 simp [Array.getElem?_setIfInBounds_ne hne]
theorem V2 {P : Program} {w : World} {o : Obj} {es : Array MapEntry} {ck : Nat} (h : w.heap[b]? = some (.map es ck)) : (setObj b o).run P w = .ok () { w with heap := w.heap.setIfInBounds b o } := by
 simp [setObj, Sem.run, h]
theorem jC {w : World} {o : Obj} (h : w.heap[b]? = some o) : b < w.heap.size := (Array.getElem?_eq_some_iff.1 h).1
theorem jW {K' : Value → List Assn → Prop} {L1 L2 : List Assn} (ht : C.P.underlying T = some (.map K E)) (law : KeyLaw C.P K enc) (hx : env.ev x = .map (some b)) (hy : env.ev y = enc k) (hz : env.ev z = encv a)
  (h : K' undef (L1 ++ u6 b enc encv (gQ k a ms) :: L2)) : OpV C ⟨dst, .mapUpdate T x y z, ty, po, af, gj⟩ env (L1 ++ u6 b enc encv ms :: L2) K' := fun w hw => by
 obtain ⟨es, ck, hb, he, hp, hc, hn⟩ := hw.ok (A := u6 b enc encv ms) (List.mem_append.2 (.inr (List.mem_cons_self ..)))
 have hlt := jC hb
 simp only [execOp, hx, hy, hz, Instr.mapUpdate, Sem.run_bind, run_underlying ht, Result.andThen_ok, I6 hb, law.check, bC law k w ms _ he]
 cases hf : S5 k ms 0 with
 | none =>
  simp only [Option.map_none, V2 hb, Result.andThen_ok, Sem.run_pure]
  refine ⟨_, hw.setObj rfl rfl hlt (A' := u6 b enc encv (gQ k a ms)) (fun w' hw' => ⟨_, _, hw', ?_, ?_, ?_, lQ k a hn⟩), h⟩
  ·have hu : gQ k a ms = ms ++ [(k, a)] := by rw [← FX]; unfold upd; rw [hf]
   rw [hu]
   unfold entsOf at he ⊢
   simp [he]
  ·simp only [Array.toList_push, List.pairwise_append]
   exact ⟨hp, by simp, fun e he' y hy => by simp at hy; subst hy; exact hc e he'⟩
  ·intro e he'
   simp only [Array.toList_push, List.mem_append, List.mem_singleton] at he'
   rcases he' with he' | rfl
   ·exact Nat.lt_succ_of_lt (hc e he')
   ·exact Nat.lt_succ_self _
 | some p =>
  obtain ⟨i, a0⟩ := p
  obtain ⟨hi0, hget⟩ := vI hf
  rw [Nat.sub_zero] at hget
  obtain ⟨e0, hge, hke, hve⟩ := zgX he hget
  have hge' : es[i]? = some e0 := by rw [← Array.getElem?_toList]; exact hge
  have hkey : (Instr.keyThatStays (((es[i]?).map (·.key)).getD (enc k)) (enc k)).run C.P w = .ok (enc k) w := by
   rw [hge', Option.map_some, Option.getD_some, hke]
   unfold Instr.keyThatStays
   rw [law.bits, if_pos rfl]
   rfl
  simp only [Option.map_some, Sem.run_bind, hkey, Result.andThen_ok, V2 hb, Sem.run_pure]
  have hml : (es.modify i fun e => { e with key := enc k, val := encv a }).toList = es.toList.modify i fun e => { e with key := enc k, val := encv a } := by simp
  refine ⟨_, hw.setObj rfl rfl hlt (A' := u6 b enc encv (gQ k a ms)) (fun w' hw' => ⟨_, _, hw', ?_, ?_, ?_, lQ k a hn⟩), h⟩
  ·have hu : gQ k a ms = ms.modify i fun p => (p.1, a) := by rw [← FX]; unfold upd; rw [hf]
   have hu2 : (ms.modify i fun p => (p.1, a)) = ms.modify i fun p => (k, a) := by
    apply List.ext_getElem?
    intro j
    rw [List.getElem?_modify, List.getElem?_modify]
    by_cases hij : i = j
    ·subst hij
     simp [hget]
    ·simp [hij]
   rw [hu, hu2, hml]
   exact zdP he i _ _ (fun e p _ _ => ⟨rfl, rfl⟩)
  ·rw [hml]; exact zaj (fun e => { e with key := enc k, val := encv a }) (fun _ => rfl) (fun a b c d h1 h2 h3 => by rw [← h1, ← h2]; exact h3) hp i
  ·rw [hml]; exact zcg (fun e => { e with key := enc k, val := encv a }) (fun _ => rfl) hc i
theorem bV {β γ : Type} (f : β → γ) : ∀ (l : List β) (i : Nat), (l.eraseIdx i).map f = (l.map f).eraseIdx i
 | [], _ => by simp
 | _ :: _, 0 => by simp
 | x :: l, i + 1 => by simp [bV f l i]
theorem rF {K' : Value → List Assn → Prop} {L1 L2 : List Assn} {tys : Array TypeId} (htys : tys[0]? = some T) (ht : C.P.underlying T = some (.map K E)) (law : KeyLaw C.P K enc) (hx : env.ev x = .map (some b)) (hy : env.ev y = enc k)
  (h : K' (.tuple #[]) (L1 ++ u6 b enc encv (Y9 k ms) :: L2)) : OpV C ⟨dst, .call { callee := .builtin .delete, args := #[x, y], argTypes := tys }, ty, po, af, gj⟩ env (L1 ++ u6 b enc encv ms :: L2) K' := fun w hw => by
 obtain ⟨es, ck, hb, he, hp, hc, hn⟩ := hw.ok (A := u6 b enc encv ms) (List.mem_append.2 (.inr (List.mem_cons_self ..)))
 have hlt := jC hb
 have hrun : ∃ es', ((execOp env.ev ⟨dst, .call { callee := .builtin .delete, args := #[x, y], argTypes := tys }, ty, po, af, gj⟩).run C.P w = .ok (.value (.tuple #[])) { w with heap := w.heap.setIfInBounds b (.map es' ck) }) ∧
   entsOf enc encv (Y9 k ms) es'.toList ∧ es'.toList.Pairwise (fun x y => x.born < y.born) ∧ (∀ e ∈ es'.toList, e.born < ck) := by
  cases hf : S5 k ms 0 with
  | none =>
   refine ⟨es, ?_, ?_, hp, hc⟩
   ·simp [execOp, resolve, invoke, builtin, hx, hy, Builtin.delete_, htys, run_underlying ht, I6 hb, law.check, bC law k w ms _ he, hf, V2 hb]
   ·have hu : Y9 k ms = ms := by rw [← vE]; unfold KV; rw [hf]
    rw [hu]; exact he
  | some p =>
   obtain ⟨i, a0⟩ := p
   refine ⟨es.eraseIdxIfInBounds i, ?_, ?_, ?_, ?_⟩
   ·simp [execOp, resolve, invoke, builtin, hx, hy, Builtin.delete_, htys, run_underlying ht, I6 hb, law.check, bC law k w ms _ he, hf, V2 hb]
   ·have hu : Y9 k ms = ms.eraseIdx i := by rw [← vE]; unfold KV; rw [hf]
    rw [hu]
    unfold entsOf at he ⊢
    rw [Array.toList_eraseIdxIfInBounds, bV, he, bV]
   ·rw [Array.toList_eraseIdxIfInBounds]; exact hp.sublist (List.eraseIdx_sublist ..)
   ·intro e he'
    rw [Array.toList_eraseIdxIfInBounds] at he'
    exact hc e ((List.eraseIdx_sublist ..).subset he')
 obtain ⟨es', hrun, h1, h2, h3⟩ := hrun
 rw [hrun]
 exact ⟨_, hw.setObj rfl rfl hlt (A' := u6 b enc encv (Y9 k ms)) (fun w' hw' => ⟨_, _, hw', h1, h2, h3, iD k hn⟩), h⟩
end ops
variable {C : Ctx} {Q : EQ} {env : Env} {L : List Assn} {ops : Array Oper} {rest : List Oper}
/-! ### one assertion turned into another by a step that touches its blocks alone -/
theorem St.step1 {w0 w w' : World} {M : List Nat} {L1 L2 N : List Assn} {A : Assn} (h : St w0 M (L1 ++ A :: L2) w) (k : St w A.fp N w') : St w0 M (L1 ++ N ++ L2) w' := by
 have hp : (L1 ++ A :: L2).Perm ([A] ++ (L1 ++ L2)) := by simp
 have k' : St w (A8 [A]) N w' := by simpa [A8] using k
 refine ((h.perm hp).frame k').perm ?_
 rw [← List.append_assoc]
 exact List.Perm.append_right _ List.perm_append_comm
theorem rM {w w' : World} {row : Option Nat} {A' : Assn} (hg : w.grownBy w' row) (h1 : A'.ok w') (h2 : ∀ b ∈ A'.fp, b < w'.heap.size ∧ (row = some b ∨ w.heap.size ≤ b)) (h3 : A'.fp.Nodup) : St w row.toList [A'] w' := by
 have hf : A8 [A'] = A'.fp := by simp [A8]
 refine ⟨hg.os, hg.tape, hg.output, hg.size, fun b hb hM => hg.block b hb (fun e => hM (by rw [← e]; simp)), ⟨?_, ?_, ?_⟩, ?_⟩
 ·intro X hX; simp at hX; subst hX; exact h1
 ·rw [hf]; exact fun b hb => (h2 b hb).1
 ·rw [hf]; exact h3
 ·rw [hf]; intro b hb
  rcases (h2 b hb).2 with h | h
  ·exact .inl (by rw [h]; simp)
  ·exact .inr h
/-! ### a slice of one's own -/
def OwnA (e : TypeId) (sz : Nat) (A : y8) (n c : Nat) (xs : List Value) : Assn where
 fp := (Value.ownBlock (.slice A n c)).toList
 ok w := w.ownsRow 0 e sz (.slice A n c) n xs
 stable w w' h hk := by
  refine ⟨hk.1, ?_⟩
  rcases hk.2 with h1 | ⟨g, cap, cur, hv, hb, hg, r⟩
  ·exact .inl h1
  ·refine .inr ⟨g, cap, cur, hv, hb, ?_, r⟩
   rw [h g (by rw [hv]; simp [Value.ownBlock])]
   exact hg
theorem zbW {e : TypeId} {sz : Nat} (w : World) : (OwnA e sz none 0 0 []).ok w := World.ownsRow_nil w 0 e sz
theorem St.ownNil {w0 w : World} {M : List Nat} {L : List Assn} (h : St w0 M L w) (e : TypeId) (sz : Nat) : St w0 M (OwnA e sz none 0 0 [] :: L) w := by
 have hf : A8 (OwnA e sz none 0 0 [] :: L) = A8 L := by rw [bP]; rfl
 refine ⟨h.os, h.tape, h.output, h.size, h.block, ⟨?_, by rw [hf]; exact h.sat.lt, by rw [hf]; exact h.sat.nodup⟩, by rw [hf]; exact h.own⟩
 intro A hA
 rcases List.mem_cons.1 hA with rfl | hA
 ·exact zbW w
 ·exact h.sat.ok A hA
theorem m6 (e : TypeId) (sz : Nat) {c : Code} (h : TC C c Q env (OwnA e sz none 0 0 [] :: L)) : TC C c Q env L := fun a w ha hw => h a w ha (hw.ownNil e sz)
theorem BB {e : TypeId} {sz : Nat} {A : y8} {n c : Nat} {xs : List Value} {w : World} (h : (OwnA e sz A n c xs).ok w) : (SlA A xs).ok w := by
 intro j u hj
 rcases h.2 with ⟨hv, hn⟩ | ⟨g, cap, cur, hv, hb, hg, hnc, hcm, m9, ht⟩
 ·have := h.1
  rw [hn, Nat.zero_mul] at this
  rw [List.length_eq_zero_iff.1 this] at hj; cases hj
 ·injection hv with h1 h2 h3
  subst h1
  refine ⟨_, rfl, ?_⟩
  rw [Q4, cell_of_row w g _ cur e (0, 0) hg]
  rw [← ht, List.getElem?_take] at hj
  split at hj
  ·simpa using hj
  ·cases hj
theorem x8 {e : TypeId} {sz : Nat} {A : y8} {n c : Nat} {xs : List Value} (h : Has C L (OwnA e sz A n c xs)) : Has C L (SlA A xs) := fun w hw => BB (h w hw)
theorem j8 {b : Nat} {T : TypeId} {cs : List Value} (h : Has C L (Blk b T cs)) : Has C L (SlA (some ⟨b, 0, none⟩) cs) := fun w hw j u hj =>
 ⟨_, rfl, by rw [Q4, bA (h w hw)]; simpa using hj⟩
theorem H2 {e : TypeId} {sz : Nat} {A : y8} {n c : Nat} {xs : List Value} {w : World} (h : (OwnA e sz A n c xs).ok w) : n ≤ c ∧ c ≤ maxLen ∧ xs.length = n * sz := by
 refine ⟨?_, ?_, h.1⟩
 ·rcases h.2 with ⟨hv, hn⟩ | ⟨g, cap, cur, hv, hb, hg, hnc, hcm, m9, ht⟩
  ·omega
  ·injection hv with _ _ h3; omega
 ·rcases h.2 with ⟨hv, hn⟩ | ⟨g, cap, cur, hv, hb, hg, hnc, hcm, m9, ht⟩
  ·injection hv with _ _ h3; subst h3; exact Nat.zero_le _
  ·injection hv with _ _ h3; omega
def S3 (P : Program) (e : TypeId) (sz bytes : Nat) : Prop := ∃ i z, P.info? e = some i ∧ i.zero = some z ∧ i.size = sz ∧ i.bytes = bytes ∧ z.cells.size = sz ∧ 0 < sz
section ops
variable {dst : Option Tmp} {ty : TypeId} {po : String} {af : Array Edge} {gj : Option (Nat × Bool)} {x y z : Operand} {v : Value} {T e : TypeId} {K : Value → List Assn → Prop}
theorem V6 {L1 L2 : List Assn} {A B : y8} {n c m c' sz bytes : Nat} {xs news : List Value} (ht : C.P.underlying T = some (.slice e)) (he : S3 C.P e sz bytes)
  (hx : env.ev x = .slice A n c) (hy : env.ev y = .slice B m c') (hs : Has C (L1 ++ OwnA e sz A n c xs :: L2) (SlA B news)) (hl : news.length = m * sz) (h1 : ∀ u ∈ news, u.oneCell' = true)
  (h63 : n + m ≤ maxLen) (hby : (n + m) * bytes ≤ 140737488355328)
  (h : ∀ A' c', K (.slice A' (n + m) c') (L1 ++ OwnA e sz A' (n + m) c' (xs ++ news) :: L2)) :
  OpV C ⟨dst, .call { callee := .builtin .append, args := #[x, y], argTypes := #[T, T] }, ty, po, af, gj⟩ env (L1 ++ OwnA e sz A n c xs :: L2) K := fun w hw => by
 have hown : w.ownsRow 0 e sz (.slice A n c) n xs := hw.ok (A := OwnA e sz A n c xs) (List.mem_append.2 (.inr (List.mem_cons_self ..)))
 obtain ⟨i, zv, hi, hz, hsz, hb, hzs, hpos⟩ := he
 rcases Nat.eq_zero_or_pos m with hm | hm
 ·-- nothing is appended
  subst hm
  have hn : news = [] := List.eq_nil_of_length_eq_zero (by simpa using hl)
  subst hn
  have hcap := H2 hown
  have hrun : (execOp env.ev ⟨dst, .call { callee := .builtin .append, args := #[x, y], argTypes := #[T, T] }, ty, po, af, gj⟩).run C.P w = .ok (.value (.slice A n c)) w := by
   cases B with
   | none =>
    cases A <;> simp [execOp, resolve, invoke, builtin, hx, hy, Builtin.append_, run_underlying ht, sizeOf, typeInfo, hi, Builtin.lenOf, Builtin.firstCells, hcap.1, storeCells]
   | some a =>
    cases A <;> simp [execOp, resolve, invoke, builtin, hx, hy, Builtin.append_, run_underlying ht, sizeOf, typeInfo, hi, Builtin.lenOf, Builtin.firstCells, hcap.1, storeCells, loadCells, loadCellsFrom]
  rw [hrun]
  refine ⟨_, hw, ?_⟩
  have := h A c
  simpa using this
 ·have hne : news ≠ [] := fun e => by
   rw [e] at hl
   have := Nat.mul_pos hm hpos
   simp at hl; omega
  obtain ⟨u0, hu0⟩ : ∃ u, news[0]? = some u := by cases news with
   | nil => exact absurd rfl hne
   | cons u l => exact ⟨u, rfl⟩
  obtain ⟨a, rfl, _⟩ := hs w hw 0 u0 hu0
  have hcells : ∀ j u, news[j]? = some u → w.cell? (a.add j) = some u := fun j u hj => by
   obtain ⟨a', ea, hc⟩ := hs w hw j u hj
   injection ea with ea
   subst ea; exact hc
  obtain ⟨v', w', hrun, hown', hgrow, _, hat⟩ := run_append_own_at (P := C.P) w 0 T ty e i zv sz bytes ht hi hz hsz hb hzs hpos _ n xs hown a m c' news hl hcells h1 h63 hby (Nat.zero_le _)
  have hform : ∃ A' c', v' = .slice A' (n + m) c' := by
   rcases hown'.2 with ⟨hv, hn⟩ | ⟨g, cap, cur, hv, _⟩
   ·exact ⟨none, 0, by rw [hv, hn]⟩
   ·exact ⟨_, cap, hv⟩
  obtain ⟨A', c2, rfl⟩ := hform
  have hrun' : (execOp env.ev ⟨dst, .call { callee := .builtin .append, args := #[x, y], argTypes := #[T, T] }, ty, po, af, gj⟩).run C.P w = .ok (.value (.slice A' (n + m) c2)) w' := by
   simp only [execOp, resolve, invoke, builtin, Sem.run_bind, Sem.run_pure, Result.andThen_ok, List.map_toArray, List.map_cons, List.map_nil, hx, hy, hrun]
  rw [hrun']
  have hst : St w (OwnA e sz A n c xs).fp [OwnA e sz A' (n + m) c2 (xs ++ news)] w' := by
   refine rM hgrow hown' (fun b hb => ?_) ?_
   ·have hb' : Value.ownBlock (.slice A' (n + m) c2) = some b := by simpa [OwnA, Option.mem_toList] using hb
    refine ⟨(hown'.lt b hb').2, ?_⟩
    rcases hat with h2 | h2
    ·exact .inl (by rw [← h2]; exact hb')
    ·rw [h2] at hb'; injection hb' with hb'; exact .inr ow
   ·show (Value.ownBlock (.slice A' (n + m) c2)).toList.Nodup
    cases Value.ownBlock (.slice A' (n + m) c2) <;> simp
  refine ⟨_, ?_, h A' c2⟩
  have := hw.step1 hst
  simpa using this
/-! literals -/
theorem aU {parts : Array (Nat × Operand)} {len sz : Nat} {cs : List Value} (ht : C.P.underlying T = some (.slice e)) (hsz : (C.P.info? e).map (·.size) = some sz) (hle : len * sz ≤ 16777216)
  (hz : ∃ z, gI C.P e = some z ∧ Instr.fill (fun i => some (i * sz, sz)) ((Array.range (len * sz)).map fun j => (if len * sz = 0 then #[] else z.cells)[j % (if len * sz = 0 then #[] else z.cells).size]!) (parts.map fun (i, x) => (i, env.ev x)).toList = some cs.toArray)
  (h : ∀ b, K (.slice (some ⟨b, 0, none⟩) len len) (Blk b e cs :: L)) : OpV C ⟨dst, .buildSlice T len parts, ty, po, af, gj⟩ env L K := fun w hw => by
 obtain ⟨zv, N3, hfill⟩ := hz
 obtain ⟨inf, hin, hs⟩ := Option.map_eq_some_iff.1 hsz
 have hle' : ¬ len * sz > 2 ^ 24 := by simpa using hle
 have hrun : (execOp env.ev ⟨dst, .buildSlice T len parts, ty, po, af, gj⟩).run C.P w = .ok (.value (.slice (some ⟨w.heap.size, 0, none⟩) len len)) (w.alloc (.cells cs.toArray e)) := by
  simp only [execOp, Instr.buildSlice, Sem.run_bind, run_underlying ht, Result.andThen_ok, sizeOf, typeInfo, run_program, hin, hs, Sem.run_pure, Sem.run_ite, if_neg hle']
  by_cases h0 : len * sz = 0
  ·simp only [h0, if_true] at hfill ⊢
   rw [hfill]
   simp [newRow]
  ·simp only [h0, if_false, qV N3, Result.andThen_ok] at hfill ⊢
   rw [hfill]
   simp [newRow]
 rw [hrun]
 exact ⟨_, hw.alloc _, h w.heap.size⟩
theorem C8 {parts : Array (Nat × Operand)} {ps : Array (Nat × Value)} (hp : parts.map (fun (i, x) => (i, env.ev x)) = ps) (h : ∀ w, (Instr.build T ps).run C.P w = .ok v w) : Qt C L ⟨dst, .build T parts, ty, po, af, gj⟩ env v := fun w _ => by
 simp [execOp, hp, h]
theorem zb0 {fn : Fn} {first captured : Array Operand} {fs cs : Array Value} (h1 : first.map env.ev = fs) (h2 : captured.map env.ev = cs) : Qt C L ⟨dst, .makeFunc fn first captured, ty, po, af, gj⟩ env (.func fn fs cs) := fun w _ => by
 simp [execOp, h1, h2, Instr.makeFunc]
/-! pointers against nil; the type of an error -/
theorem zbe {P : Program} {w : World} {t : TypeId} {A : y8} (ht : P.underlying T = some (.pointer t)) (d : Nat) : (Op.equalIn (d + 1) T (.pointer A) (.pointer none)).run P w = .ok A.isNone w := by
 cases A <;> simp [Op.equalIn, run_underlying ht]
theorem ET {P : Program} {w : World} {t : TypeId} {A : y8} (ht : P.underlying T = some (.pointer t)) : (Op.equal T (.pointer A) (.pointer none)).run P w = .ok A.isNone w := zbe ht 9999
theorem GN : env.ev (.const (.pointer none)) = .pointer none := rfl
theorem yN {t ty2 : TypeId} {A : y8} (ht : C.P.underlying T = some (.pointer t)) (hx : env.ev x = .pointer A) : Qt C L ⟨dst, .binOp .eql T x (.const (.pointer none)) ty2, ty, po, af, gj⟩ env (.bool A.isNone) := fun w _ => by
 simp [execOp, hx, GN, eqGuard, binOp, ET ht]
theorem yO {t ty2 : TypeId} {A : y8} (ht : C.P.underlying T = some (.pointer t)) (hx : env.ev x = .pointer A) : Qt C L ⟨dst, .binOp .neq T x (.const (.pointer none)) ty2, ty, po, af, gj⟩ env (.bool (!A.isNone)) := fun w _ => by
 simp [execOp, hx, GN, eqGuard, binOp, ET ht]
theorem zaC {xT : TypeId} {d : TypeDesc} (ht : C.P.underlying T = some d) (hd : ∀ ms, d ≠ .interface ms) (hx : env.ev x = .iface T v) : Qt C L ⟨dst, .typeAssert x xT T true, ty, po, af, gj⟩ env (.tuple #[v, .bool true]) := fun w _ => by
 cases d <;> first | exact absurd rfl (hd _) | simp [execOp, hx, Instr.typeAssert, run_underlying ht]
theorem zh0 {k : IntKind} {m n : Int} {tys : Array TypeId} (hx : env.ev x = .int k m) (hy : env.ev y = .int k n) : Qt C L ⟨dst, .call { callee := .builtin .min, args := #[x, y], argTypes := tys }, ty, po, af, gj⟩ env (.int k (if n < m then n else m)) := fun w _ => by
 simp [execOp, resolve, invoke, builtin, hx, hy, Builtin.min_, Builtin.min2]
/-! ### going through a map -/
def K4 (i m ck : Nat) (ds : List MapEntry) : Assn := IsObj i (.mapIter (some m) ck (ds.map (·.born)).toArray ck)
theorem yJ {K1 E1 : TypeId} {m ck : Nat} {es : Array MapEntry} (ht : C.P.underlying T = some (.map K1 E1)) (hx : env.ev x = .map (some m)) (h : Has C L (IsObj m (.map es ck)))
  (hk : ∀ b, K (.pointer (some ⟨b, 0, none⟩)) (K4 b m ck [] :: L)) : OpV C ⟨dst, .range T x, ty, po, af, gj⟩ env L K := fun w hw => by
 have hb : w.heap[m]? = some (.map es ck) := h w hw
 have hrun : (execOp env.ev ⟨dst, .range T x, ty, po, af, gj⟩).run C.P w = .ok (.value (.pointer (some ⟨w.heap.size, 0, none⟩))) (w.alloc (.mapIter (some m) ck #[] ck)) := by
  simp [execOp, hx, Instr.range, run_underlying ht, I6 hb]
 rw [hrun]
 exact ⟨_, hw.alloc _, hk w.heap.size⟩
theorem dL {P : Program} {w : World} {b : Nat} {o : Obj} (ho : ∀ c t f, o ≠ .cells c t f) (h : w.heap[b]? = some o) : (getObj b).run P w = .ok o w := by
 simp only [getObj, Sem.run, h]
theorem zaB {P : Program} {w : World} {b : Nat} {o o' : Obj} (ho : ∀ c t f, o' ≠ .cells c t f) (h : w.heap[b]? = some o') : (setObj b o).run P w = .ok () { w with heap := w.heap.setIfInBounds b o } := by
 simp only [setObj, Sem.run, h]
theorem qF : ∀ {l : List MapEntry} {e : MapEntry}, l.Pairwise (fun x y => x.born < y.born) → e ∈ l → l.find? (fun x => x.born == e.born) = some e
 | [], _, _, h => by cases h
 | a :: l, e, hp, h => by
  rw [List.pairwise_cons] at hp
  rcases List.mem_cons.1 h with rfl | h
  ·simp
  ·have := hp.1 e h
   have hne : (a.born == e.born) = false := by simp; omega
   rw [List.find?_cons, hne]
   exact qF hp.2 h
theorem kW {P : Program} (w : World) (n : Nat) (hn : 0 < n) : ∃ k w', (choose (.mapNext n)).run P w = .ok k w' ∧ k < n ∧ w'.heap = w.heap ∧ w'.os = w.os ∧ w'.tape = w.tape ∧ w'.output = w.output := by
 simp only [choose, Sem.run]
 by_cases hf : (Question.mapNext n).forced = true
 ·rw [if_pos hf]; exact ⟨0, w, rfl, hn, rfl, rfl, rfl, rfl⟩
 ·rw [if_neg hf]; exact ⟨_, _, rfl, Nat.mod_lt _ hn, rfl, rfl, rfl, rfl⟩
theorem yI {L1 L2 : List Assn} {i m ck : Nat} {es : Array MapEntry} {ds : List MapEntry} (hx : env.ev x = .pointer (some ⟨i, 0, none⟩)) (h : Has C (L1 ++ K4 i m ck ds :: L2) (IsObj m (.map es ck))) (hc : ∀ e ∈ es.toList, e.born < ck)
  (h0 : (∀ e ∈ es.toList, e.born ∈ ds.map (·.born)) → K (.tuple #[.bool false]) (L1 ++ K4 i m ck ds :: L2))
  (h1 : ∀ e ∈ es.toList, e.born ∉ ds.map (·.born) → K (.tuple #[.bool true, e.key, e.val]) (L1 ++ K4 i m ck (ds ++ [e]) :: L2)) :
  OpV C ⟨dst, .next x false, ty, po, af, gj⟩ env (L1 ++ K4 i m ck ds :: L2) K := fun w hw => by
 have hb : w.heap[m]? = some (.map es ck) := h w hw
 have hi : w.heap[i]? = some (.mapIter (some m) ck (ds.map (·.born)).toArray ck) := hw.ok (A := K4 i m ck ds) (List.mem_append.2 (.inr (List.mem_cons_self ..)))
 have hgi := dL (P := C.P) (by intro c t f e; cases e) hi
 have hcond : (!(ds.map (·.born)).toArray.isEmpty && !es.isEmpty && es.all fun e => decide (e.born ≥ ck)) = false := by
  cases hes : es.isEmpty with
  | true => simp
  | false =>
   have hne : es.toList ≠ [] := fun e => by simp at e; subst e; simp at hes
   obtain ⟨e0, l0, hl⟩ := List.exists_cons_of_ne_nil hne
   have he0 : e0 ∈ es.toList := by rw [hl]; exact List.mem_cons_self ..
   have hall : (es.all fun e => decide (e.born ≥ ck)) = false := by
    cases hall : (es.all fun e => decide (e.born ≥ ck)) with
    | false => rfl
    | true =>
     have := Array.all_eq_true_iff_forall_mem.1 hall e0 (by simpa using he0)
     have h2 := hc e0 he0
     simp at this; omega
   simp [hall]
 let old : Array MapEntry := (es.filter fun e => !(ds.map (·.born)).toArray.contains e.born).filter fun e => decide (e.born < ck)
 have hnew : ((es.filter fun e => !(ds.map (·.born)).toArray.contains e.born).filter fun e => decide (e.born ≥ ck)) = #[] := by
  rw [Array.filter_eq_empty_iff]
  intro e he
  have : e ∈ es := (Array.mem_filter.1 he).1
  simpa using hc e (by simpa using this)
 have hmem : ∀ e, e ∈ old ↔ e ∈ es.toList ∧ e.born ∉ ds.map (·.born) := by
  intro e
  simp only [old, Array.mem_filter]
  constructor
  ·rintro ⟨⟨h1, h2⟩, _⟩
   exact ⟨by simpa using h1, by simpa using h2⟩
  ·rintro ⟨h1, h2⟩
   exact ⟨⟨by simpa using h1, by simpa using h2⟩, by simpa using hc e h1⟩
 simp only [execOp, hx, Instr.next, Sem.run_bind, hgi, Result.andThen_ok, I6 hb, hcond, Bool.false_eq_true, if_false, Sem.run_pure, hnew]
 have hold : (es.filter fun e => !(ds.map (·.born)).toArray.contains e.born).filter (fun e => decide (e.born < ck)) = old := rfl
 rw [hold]
 clear_value old
 cases hoe : old.isEmpty with
 | true =>
  have hz : old = #[] := by simpa using hoe
  subst hz
  obtain ⟨k, w1, hr, hk, hh, ho, ht, hout⟩ := kW (P := C.P) w 1 ow
  have hk0 : k = 0 := by omega
  subst hk0
  simp only [if_true, Array.append_empty, Array.map_empty, List.size_toArray, List.length_cons, List.length_nil, Nat.zero_add, hr, Result.andThen_ok]
  refine ⟨_, hw.same ho ht hout hh, h0 fun e he => ?_⟩
  refine Decidable.byContradiction fun hn => ?_
  have := (hmem e).2 ⟨he, hn⟩
  simp at this
 | false =>
  have hpos : 0 < old.size := by
   rcases Nat.eq_zero_or_pos old.size with h | h
   ·have : old = #[] := Array.eq_empty_of_size_eq_zero h
    rw [this] at hoe; simp at hoe
   ·exact h
  obtain ⟨k, w1, hr, hk, hh, ho, ht, hout⟩ := kW (P := C.P) w old.size hpos
  have hget : (old.map some)[k]? = some (some old[k]) := by simp [hk]
  have hin := (hmem old[k]).1 (Array.getElem_mem hk)
  have hi1 : w1.heap[i]? = some (.mapIter (some m) ck (ds.map (·.born)).toArray ck) := by rw [hh]; exact hi
  simp only [Bool.false_eq_true, if_false, Array.append_empty, Array.empty_append, Array.size_map, hr, Result.andThen_ok, hget, Sem.run_bind, zaB (P := C.P) (by intro c t f e; cases e) hi1, Sem.run_pure]
  have hst := (hw.same ho ht hout hh).setObj (A := K4 i m ck ds) (A' := K4 i m ck (ds ++ [old[k]])) (o := .mapIter (some m) ck ((ds.map (·.born)).toArray.push old[k].born) ck) rfl rfl (jC hi1)
   (fun w' hw' => by
    show w'.heap[i]? = _
    rw [hw']
    simp)
  exact ⟨_, hst, h1 _ hin.1 hin.2⟩
end ops
end Go.E
namespace Go.E
set_option linter.unusedSectionVars false
variable {C : Ctx} {Q : EQ} {env : Env} {L : List Assn} {ops : Array Oper} {rest : List Oper}
section ops
variable {dst : Option Tmp} {ty : TypeId} {po : String} {af : Array Edge} {gj : Option (Nat × Bool)} {x y z : Operand} {v : Value} {T e : TypeId} {K : Value → List Assn → Prop}
theorem fO {t ty2 : TypeId} {a : Addr} (ht : C.P.underlying T = some (.pointer t)) (hx : env.ev x = .pointer (some a)) : Qt C L ⟨dst, .binOp .eql T x (.const (.pointer none)) ty2, ty, po, af, gj⟩ env (.bool false) := yN ht hx
theorem zbZ {t ty2 : TypeId} (ht : C.P.underlying T = some (.pointer t)) (hx : env.ev x = .pointer none) : Qt C L ⟨dst, .binOp .eql T x (.const (.pointer none)) ty2, ty, po, af, gj⟩ env (.bool true) := yN ht hx
theorem zb2 {t ty2 : TypeId} {a : Addr} (ht : C.P.underlying T = some (.pointer t)) (hx : env.ev x = .pointer (some a)) : Qt C L ⟨dst, .binOp .neq T x (.const (.pointer none)) ty2, ty, po, af, gj⟩ env (.bool true) := yO ht hx
theorem zb1 {t ty2 : TypeId} (ht : C.P.underlying T = some (.pointer t)) (hx : env.ev x = .pointer none) : Qt C L ⟨dst, .binOp .neq T x (.const (.pointer none)) ty2, ty, po, af, gj⟩ env (.bool false) := yO ht hx
end ops
def Rd (C : Ctx) (L : List Assn) (A : Assn) : Prop := ∀ w, St C.w0 C.M L w → Ro w [] A
theorem l9 {A : Assn} (h : A ∈ L) : Rd C L A := fun w hw => ⟨hw.ok h, fun b hb => ⟨hw.sat.lt b (cU.2 ⟨A, h, hb⟩), fun hn => by cases hn⟩⟩
theorem Rd.at {A : Assn} (i : Nat) (h : L[i]? = some A) : Rd C L A := l9 (List.mem_of_getElem? h)
theorem Rd.ro {A : Assn} (h : Ro C.w0 C.M A) : Rd C L A := fun w hw => h.go hw (fun b hb => by cases hb)
theorem j4 {A : Assn} (h : Rd C L A) : Has C L A := fun w hw => (h w hw).1
theorem Rd.sub {A B : Assn} (h : Rd C L A) (hf : ∀ b ∈ B.fp, b ∈ A.fp) (hk : ∀ w, A.ok w → B.ok w) : Rd C L B := fun w hw => ⟨hk w (h w hw).1, fun b hb => (h w hw).2 b (hf b hb)⟩
def KS : y8 → List Value → List Nat
 | some a, _ :: _ => [a.block]
 | _, _ => []
theorem bN (A : y8) (cs : List Value) : (SlA A cs).fp = KS A cs := by
 cases A <;> cases cs <;> rfl
theorem U9 {A : y8} {cs : List Value} {b : Nat} (h : b ∈ KS A cs) : ∃ a, A = some a ∧ b = a.block ∧ cs ≠ [] := by
 cases A with
 | none => cases cs <;> cases h
 | some a => cases cs with
  | nil => cases h
  | cons u l => exact ⟨a, rfl, List.mem_singleton.1 h, fun e => by cases e⟩
theorem tW {a : Addr} {cs : List Value} (h : cs ≠ []) : a.block ∈ KS (some a) cs := by
 cases cs with
 | nil => exact absurd rfl h
 | cons u l => exact List.mem_singleton.2 rfl
theorem Rd.own {sz n c : Nat} {A : y8} {e : TypeId} {xs : List Value} (h : Rd C L (OwnA e sz A n c xs)) : Rd C L (SlA A xs) := h.sub (fun b hb => by
 rw [bN] at hb
 obtain ⟨a, rfl, rfl, _⟩ := U9 hb
 exact List.mem_singleton.2 rfl) (fun _ hw => BB hw)
theorem Rd.blk {b : Nat} {T : TypeId} {cs : List Value} (h : Rd C L (Blk b T cs)) : Rd C L (SlA (some ⟨b, 0, none⟩) cs) := h.sub (fun k hk => by
 rw [bN] at hk
 obtain ⟨a, ha, rfl, _⟩ := U9 hk
 injection ha with ha; subst ha
 exact List.mem_singleton.2 rfl) (fun w hw j u hj => ⟨_, rfl, by rw [Q4, bA hw]; simpa using hj⟩)
theorem u5 {w0 w : World} {M : List Nat} {Pre R : List Assn} {A : Assn} (s : St w0 M (Pre ++ R) w) (h : Ro w0 M A) : Ro w (A8 Pre) A :=
 h.go s (fun b hb => s.own b (by rw [G2]; exact List.mem_append.2 (.inl hb)))
theorem y9 {w0 w : World} {M : List Nat} {Pre R : List Assn} {A : Assn} (s : St w0 M (Pre ++ R) w) (h : A ∈ R) : Ro w (A8 Pre) A := zeA s.sat h
end Go.E
