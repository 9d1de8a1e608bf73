/-
  A program logic over the kit's fenced weakest precondition: environments as functions, a symbolic heap as a list of
  block assertions, and the rules for code. Core part: definitions, and the rules for the forms of code.
-/
import Derived.OrdersIn
import Derived.TacticsIn
namespace Go.E

/-- What is known of some blocks. -/
structure Assn where
  fp : List Nat
  ok : World → Prop
  stable : ∀ w w' : World, (∀ b ∈ fp, w'.heap[b]? = w.heap[b]?) → ok w → ok w'

def fps (L : List Assn) : List Nat := L.flatMap Assn.fp

theorem fps_cons (A : Assn) (L : List Assn) : fps (A :: L) = A.fp ++ fps L := rfl
theorem fps_append (L L' : List Assn) : fps (L ++ L') = fps L ++ fps L' := by simp [fps]
theorem mem_fps {L : List Assn} {b : Nat} : b ∈ fps L ↔ ∃ A ∈ L, b ∈ A.fp := by simp [fps]
theorem fps_perm {L L' : List Assn} (h : L.Perm L') : (fps L).Perm (fps L') := h.flatMap_right _

structure Sat (w : World) (L : List Assn) : Prop where
  ok : ∀ A ∈ L, A.ok w
  lt : ∀ b ∈ fps L, b < w.heap.size
  nodup : (fps L).Nodup

structure St (w0 : World) (M : List Nat) (L : List Assn) (w : World) : Prop where
  os : w.os = w0.os
  tape : w.tape = w0.tape
  output : w.output = w0.output
  size : w0.heap.size ≤ w.heap.size
  block : ∀ b, b < w0.heap.size → b ∉ M → w.heap[b]? = w0.heap[b]?
  sat : Sat w L
  own : ∀ b ∈ fps L, b ∈ M ∨ w0.heap.size ≤ b

/-- Known of blocks that are not to be changed. -/
def Ro (w : World) (M : List Nat) (A : Assn) : Prop := A.ok w ∧ ∀ b ∈ A.fp, b < w.heap.size ∧ b ∉ M

theorem Sat.perm {w : World} {L L' : List Assn} (h : Sat w L) (p : L.Perm L') : Sat w L' :=
  ⟨fun A hA => h.ok A (p.mem_iff.2 hA), fun b hb => h.lt b ((fps_perm p).mem_iff.2 hb), (fps_perm p).nodup_iff.1 h.nodup⟩
theorem Sat.left {w : World} {L R : List Assn} (h : Sat w (L ++ R)) : Sat w L :=
  ⟨fun A hA => h.ok A (List.mem_append.2 (.inl hA)), fun b hb => h.lt b (by rw [fps_append]; exact List.mem_append.2 (.inl hb)),
   by have := h.nodup; rw [fps_append] at this; exact (List.nodup_append.1 this).1⟩
theorem Sat.right {w : World} {L R : List Assn} (h : Sat w (L ++ R)) : Sat w R :=
  ⟨fun A hA => h.ok A (List.mem_append.2 (.inr hA)), fun b hb => h.lt b (by rw [fps_append]; exact List.mem_append.2 (.inr hb)),
   by have := h.nodup; rw [fps_append] at this; exact (List.nodup_append.1 this).2.1⟩
theorem Sat.apart {w : World} {L R : List Assn} (h : Sat w (L ++ R)) : ∀ b ∈ fps L, b ∉ fps R := by
  have := h.nodup
  rw [fps_append] at this
  intro b hb hb'
  exact (List.nodup_append.1 this).2.2 b hb b hb' rfl
theorem Sat.nil (w : World) : Sat w [] := ⟨(fun _ h => nomatch h), (fun _ h => nomatch h), List.nodup_nil⟩

theorem St.perm {w0 w : World} {M : List Nat} {L L' : List Assn} (h : St w0 M L w) (p : L.Perm L') : St w0 M L' w :=
  ⟨h.os, h.tape, h.output, h.size, h.block, h.sat.perm p, fun b hb => h.own b ((fps_perm p).mem_iff.2 hb)⟩
theorem St.left {w0 w : World} {M : List Nat} {L R : List Assn} (h : St w0 M (L ++ R) w) : St w0 M L w :=
  ⟨h.os, h.tape, h.output, h.size, h.block, h.sat.left, fun b hb => h.own b (by rw [fps_append]; exact List.mem_append.2 (.inl hb))⟩
/-- A part of what is known. -/
def Sub (A B : List Assn) : Prop := ∃ R, B.Perm (A ++ R)
theorem Sub.refl (A : List Assn) : Sub A A := ⟨[], by simp⟩
theorem Sub.of_perm {A B : List Assn} (h : B.Perm A) : Sub A B := ⟨[], by simpa using h⟩
theorem Sub.nil (B : List Assn) : Sub [] B := ⟨B, by simp⟩
theorem Sub.trans {A B C : List Assn} (h : Sub A B) (k : Sub B C) : Sub A C := by
  obtain ⟨R, hR⟩ := h
  obtain ⟨S, hS⟩ := k
  exact ⟨R ++ S, hS.trans (by rw [← List.append_assoc]; exact hR.append_right S)⟩
theorem Sub.mem {A B : List Assn} (h : Sub A B) {X : Assn} (hX : X ∈ A) : X ∈ B := by
  obtain ⟨R, hR⟩ := h
  exact hR.mem_iff.2 (List.mem_append.2 (.inl hX))
theorem Sub.drop (X : Assn) {A B : List Assn} (h : Sub A B) : Sub A (X :: B) := by
  obtain ⟨R, hR⟩ := h
  exact ⟨X :: R, (hR.cons X).trans List.perm_middle.symm⟩
theorem Sub.keep (X : Assn) {A B : List Assn} (h : Sub A B) : Sub (X :: A) (X :: B) := by
  obtain ⟨R, hR⟩ := h
  exact ⟨R, hR.cons X⟩
theorem St.sub {w0 w : World} {M : List Nat} {L L' : List Assn} (h : St w0 M L' w) (s : Sub L L') : St w0 M L w := by
  obtain ⟨R, hR⟩ := s
  exact (h.perm hR).left
theorem St.start {w : World} {L : List Assn} (h : Sat w L) : St w (fps L) L w :=
  ⟨rfl, rfl, rfl, Nat.le_refl _, fun _ _ _ => rfl, h, fun _ hb => .inl hb⟩
theorem St.ok {w0 w : World} {M : List Nat} {L : List Assn} (h : St w0 M L w) {A : Assn} (hA : A ∈ L) : A.ok w := h.sat.ok A hA
theorem Ro.at {w0 w : World} {M : List Nat} {L : List Assn} {A : Assn} (h : Ro w0 M A) (s : St w0 M L w) : A.ok w :=
  A.stable w0 w (fun b hb => s.block b (h.2 b hb).1 (h.2 b hb).2) h.1
/-- Handed on to a callee that may change N. -/
theorem Ro.go {w0 w : World} {M N : List Nat} {L : List Assn} {A : Assn} (h : Ro w0 M A) (s : St w0 M L w) (hN : ∀ b ∈ N, b ∈ M ∨ w0.heap.size ≤ b) : Ro w N A :=
  ⟨h.at s, fun b hb => ⟨Nat.lt_of_lt_of_le (h.2 b hb).1 s.size, fun hn => by
    rcases hN b hn with h1 | h1
    · exact (h.2 b hb).2 h1
    · have := (h.2 b hb).1; omega⟩⟩
theorem Ro.of_mem {w : World} {P R : List Assn} {A : Assn} (s : Sat w (P ++ R)) (hA : A ∈ R) : Ro w (fps P) A :=
  ⟨s.ok A (List.mem_append.2 (.inr hA)), fun b hb => ⟨s.lt b (by rw [fps_append]; exact List.mem_append.2 (.inr (mem_fps.2 ⟨A, hA, hb⟩))),
    fun hn => s.apart b hn (mem_fps.2 ⟨A, hA, hb⟩)⟩⟩
/-- What a callee that was given P leaves, beside what it was not given. -/
theorem St.frame {w0 w w' : World} {M : List Nat} {P R L' : List Assn} (h : St w0 M (P ++ R) w) (k : St w (fps P) L' w') : St w0 M (L' ++ R) w' := by
  have hR : ∀ b ∈ fps R, w'.heap[b]? = w.heap[b]? := fun b hb =>
    k.block b (h.sat.right.lt b hb) (fun hp => h.sat.apart b hp hb)
  refine ⟨k.os.trans h.os, k.tape.trans h.tape, k.output.trans h.output, Nat.le_trans h.size k.size, fun b hb hM => ?_, ⟨?_, ?_, ?_⟩, ?_⟩
  · rw [k.block b (Nat.lt_of_lt_of_le hb h.size) (fun hp => ?_)]
    · exact h.block b hb hM
    · rcases h.own b (by rw [fps_append]; exact List.mem_append.2 (.inl hp)) with h1 | h1
      · exact hM h1
      · omega
  · intro A hA
    rcases List.mem_append.1 hA with hA | hA
    · exact k.sat.ok A hA
    · exact A.stable w w' (fun b hb => hR b (mem_fps.2 ⟨A, hA, hb⟩)) (h.sat.right.ok A hA)
  · intro b hb
    rw [fps_append] at hb
    rcases List.mem_append.1 hb with hb | hb
    · exact k.sat.lt b hb
    · exact Nat.lt_of_lt_of_le (h.sat.right.lt b hb) k.size
  · rw [fps_append]
    refine List.nodup_append.2 ⟨k.sat.nodup, h.sat.right.nodup, fun x hx y hy hxy => ?_⟩
    subst hxy
    rcases k.own x hx with h1 | h1
    · exact h.sat.apart x h1 hy
    · have := h.sat.right.lt x hy; omega
  · intro b hb
    rw [fps_append] at hb
    rcases List.mem_append.1 hb with hb | hb
    · rcases k.own b hb with h1 | h1
      · exact h.own b (by rw [fps_append]; exact List.mem_append.2 (.inl h1))
      · exact .inr (Nat.le_trans h.size h1)
    · exact h.own b (by rw [fps_append]; exact List.mem_append.2 (.inr hb))

/-! ### environments -/
structure Env where
  f : Nat → Value
  ds : List Nat
instance : CoeFun Env (fun _ => Nat → Value) := ⟨Env.f⟩
def Env.put (env : Env) (d : Nat) (v : Value) : Env := ⟨fun t => bif Nat.beq t d then v else env.f t, env.ds⟩
def Env.putO (env : Env) (d : Option Nat) (v : Value) : Env := match d with
  | some d => env.put d v
  | none => env
def Env.ev (env : Env) : Operand → Value
  | .tmp t => env t
  | .const v => v
  | .global g => .pointer (some ⟨g, 0, none⟩)
  | .func f => .func (.func f) #[] #[]
theorem Env.put_same (env : Env) (d : Nat) (v : Value) : env.put d v d = v := by
  show (bif Nat.beq d d then v else env.f d) = v
  rw [show Nat.beq d d = true from Nat.beq_refl d]; rfl
theorem Env.put_other (env : Env) {d t : Nat} (v : Value) (h : t ≠ d) : env.put d v t = env t := by
  have hb : Nat.beq t d = false := by
    cases hh : Nat.beq t d with
    | false => rfl
    | true => exact absurd (Nat.eq_of_beq_eq_true hh) h
  show (bif Nat.beq t d then v else env.f t) = env.f t
  rw [hb]; rfl

/-- The mark that a range over a function leaves among the deferred calls. -/
def markD (D : Nat) : Deferred := { target := .collected D, args := #[] }
def Fits (n : Nat) (a : Act) (env : Env) : Prop := a.defers = env.ds.map markD ∧ a.tmps.size = n ∧ ∀ t, a.tmps.getD t undef = env t
theorem Fits.ev {n : Nat} {a : Act} {env : Env} (h : Fits n a env) : a.eval = env.ev := by
  funext x
  cases x <;> simp only [Act.eval, Env.ev]
  exact h.2.2 _
theorem Fits.put {n : Nat} {a : Act} {env : Env} (h : Fits n a env) {d : Nat} (hd : d < n) (v : Value) : Fits n (a.put (some d) v) (env.put d v) := by
  refine ⟨h.1, by simp [Act.put, h.2.1], fun t => ?_⟩
  by_cases ht : t = d
  · subst ht
    rw [Env.put_same]
    simp [Act.put, h.2.1, hd]
  · rw [Env.put_other _ _ ht, ← h.2.2 t]
    simp [Act.put, Array.getElem?_setIfInBounds_ne (Ne.symm ht)]
def dlt (d : Option Nat) (n : Nat) : Bool := match d with
  | some d => Nat.blt d n
  | none => true
theorem Fits.putO {n : Nat} {a : Act} {env : Env} (h : Fits n a env) {d : Option Nat} (hd : dlt d n = true) (v : Value) : Fits n (a.put d v) (env.putO d v) := by
  cases d with
  | none => exact h
  | some d => exact h.put (by simpa [dlt] using hd) v

def yieldedE (ops : Array Oper) (env : Env) (j : Nat) : Option Bool :=
  match (ops[j]?).bind (·.dst) with
  | some t => (match env t with
    | .bool b => some b
    | _ => none)
  | none => none
theorem yielded_eq {n : Nat} {a : Act} {env : Env} (h : Fits n a env) (ops : Array Oper) : yielded ops a.tmps = yieldedE ops env := by
  funext j
  unfold yielded yieldedE
  cases hd : (ops[j]?).bind (·.dst) with
  | none => rfl
  | some t =>
    simp only [Option.bind_some]
    rw [← h.2.2 t]
    cases ht : a.tmps[t]? with
    | none => simp [ht, undef]
    | some v => simp only [ht, Array.getD_eq_getD_getElem?, Option.getD_some]; cases v <;> rfl

/-! ### the judgements -/
def FW (r : Option Nat) : Fence := { fn := fun _ => True, depth := none, alive := false, round := r }
theorem FW_room (r : Option Nat) (k : Nat) : (FW r).room k := fun d h => by cases h
theorem FW_none : FW none = Fence.wide := rfl

structure Ctx where
  P : Program
  n : Nat
  w0 : World
  M : List Nat
  r : Option Nat

abbrev EQ := Exit → Env → List Assn → Prop
def lift (C : Ctx) (Q : EQ) : Exit → Act → World → Prop := fun x a w => ∃ env L, Fits C.n a env ∧ St C.w0 C.M L w ∧ Q x env L

def TC (C : Ctx) (c : Code) (Q : EQ) (env : Env) (L : List Assn) : Prop :=
  ∀ a w, Fits C.n a env → St C.w0 C.M L w → c.wpIn (FW C.r) 0 C.P (lift C Q) a w

@[reducible] def thenQ (C : Ctx) (y : Code) (Q : EQ) : EQ := fun x env L => match x with
  | .normal => TC C y Q env L
  | x => Q x env L
@[reducible] def blockQ (id : Nat) (Q : EQ) : EQ := fun x env L => match x with
  | .exit i => match Nat.beq i id with
    | true => Q .normal env L
    | false => Q (.exit i) env L
  | x => Q x env L

variable {C : Ctx} {Q : EQ} {env : Env} {L : List Assn}

theorem TC.mono {c : Code} {Q Q' : EQ} (h : TC C c Q env L) (hq : ∀ x env L, Q x env L → Q' x env L) : TC C c Q' env L :=
  fun a w ha hw => wpIn_mono (h a w ha hw) fun _ _ _ ⟨e, l, h1, h2, h3⟩ => ⟨e, l, h1, h2, hq _ _ _ h3⟩
theorem TC.sub {c : Code} {L L' : List Assn} (h : TC C c Q env L) (s : Sub L L') : TC C c Q env L' := fun a w ha hw => h a w ha (hw.sub s)
theorem TC.seq {x y : Code} (h : TC C x (thenQ C y Q) env L) : TC C (.seq x y) Q env L := fun a w ha hw =>
  wpIn_seq (wpIn_mono (h a w ha hw) fun e a' w' ⟨env', L', h1, h2, h3⟩ => by
    cases e with
    | normal => exact h3 a' w' h1 h2
    | _ => exact ⟨env', L', h1, h2, h3⟩)
theorem TC.skip (h : Q .normal env L) : TC C .skip Q env L := fun _ _ ha hw => wpIn_skip ⟨env, L, ha, hw, h⟩
theorem TC.ret (h : Q .ret env L) : TC C .ret Q env L := fun _ _ ha hw => wpIn_ret ⟨env, L, ha, hw, h⟩
theorem TC.exit {id : Nat} (h : Q (.exit id) env L) : TC C (.exit id) Q env L := fun _ _ ha hw => wpIn_exit ⟨env, L, ha, hw, h⟩
theorem TC.block {id : Nat} {c : Code} (h : TC C c (blockQ id Q) env L) : TC C (.block id c) Q env L := fun a w ha hw =>
  wpIn_block (wpIn_mono (h a w ha hw) fun e a' w' ⟨env', L', h1, h2, h3⟩ => by
    cases e with
    | exit i =>
      have h4 : (match Nat.beq i id with
        | true => Q .normal env' L'
        | false => Q (.exit i) env' L') := h3
      simp only [Exit.inBlock]
      cases hb : Nat.beq i id with
      | true =>
        rw [hb] at h4
        simp only [Nat.eq_of_beq_eq_true hb, if_true]
        exact ⟨env', L', h1, h2, h4⟩
      | false =>
        rw [hb] at h4
        have hne : ¬ i = id := fun e => by subst e; rw [Nat.beq_refl] at hb; cases hb
        simp only [hne, if_false]
        exact ⟨env', L', h1, h2, h4⟩
    | _ => exact ⟨env', L', h1, h2, h3⟩)
theorem TC.cond {c : Operand} {x y : Code} {t : Bool} (hc : env.ev c = .bool t) (h : TC C (if t then x else y) Q env L) : TC C (.cond c x y) Q env L :=
  fun a w ha hw => wpIn_cond (t := t) (by rw [ha.ev]; exact hc) (h a w ha hw)
theorem TC.ifd {c : Operand} {x y : Code} {p : Prop} {_ : Decidable p} (hc : env.ev c = .bool (decide p)) (h1 : p → TC C x Q env L) (h2 : ¬ p → TC C y Q env L) : TC C (.cond c x y) Q env L := by
  refine TC.cond hc ?_
  by_cases hp : p
  · rw [if_pos (by simpa using hp)]; exact h1 hp
  · rw [if_neg (by simpa using hp)]; exact h2 hp
theorem TC.ifb {c : Operand} {x y : Code} {t : Bool} (hc : env.ev c = .bool t) (h1 : t = true → TC C x Q env L) (h2 : t = false → TC C y Q env L) : TC C (.cond c x y) Q env L := by
  refine TC.cond hc ?_
  cases t with
  | true => exact h1 rfl
  | false => exact h2 rfl
theorem TC.iftrue {c : Operand} {x y : Code} {t : Bool} (hc : env.ev c = .bool t) (ht : t = true) (h : TC C x Q env L) : TC C (.cond c x y) Q env L := by
  subst ht; exact TC.cond hc h
theorem TC.iffalse {c : Operand} {x y : Code} {t : Bool} (hc : env.ev c = .bool t) (ht : t = false) (h : TC C y Q env L) : TC C (.cond c x y) Q env L := by
  subst ht; exact TC.cond hc h

/-! ### loops -/
def has : List Nat → Nat → Bool
  | [], _ => false
  | d :: l, t => match Nat.beq d t with
    | true => true
    | false => has l t
theorem has_mem {t : Nat} : ∀ {l : List Nat}, has l t = true → t ∈ l
  | [], h => by cases h
  | d :: l, h => by
    unfold has at h
    cases hb : Nat.beq d t with
    | true => exact (Nat.eq_of_beq_eq_true hb) ▸ List.mem_cons_self ..
    | false => rw [hb] at h; exact List.mem_cons_of_mem _ (has_mem h)
theorem mem_has {t : Nat} : ∀ {l : List Nat}, t ∈ l → has l t = true
  | [], h => by cases h
  | d :: l, h => by
    unfold has
    cases hb : Nat.beq d t with
    | true => rfl
    | false =>
      rcases List.mem_cons.1 h with e | h
      · subst e; rw [Nat.beq_refl] at hb; cases hb
      · exact mem_has h
def scr (mods : List Nat) (u env : Env) : Env := ⟨fun t => bif has mods t then u t else env t, env.ds⟩
def puts : List (Nat × Value) → Env → Env
  | [], env => env
  | (d, v) :: l, env => (puts l env).put d v
/-- Outside 'mods' it is 'env'; and it holds 'vars'. -/
def Agr (mods : List Nat) (vars : List (Nat × Value)) (env e : Env) : Prop :=
  ((∀ t, has mods t = false → e t = env t) ∧ e.ds = env.ds) ∧ ∀ x ∈ vars, e x.1 = x.2
theorem puts_ds : ∀ (vars : List (Nat × Value)) (e : Env), (puts vars e).ds = e.ds
  | [], _ => rfl
  | (_, _) :: l, e => puts_ds l e
theorem Env.ext' {e e' : Env} (h : ∀ t, e t = e' t) (hd : e.ds = e'.ds) : e = e' := by
  cases e; cases e'
  simp only at hd h
  subst hd
  congr 1
  funext t; exact h t
theorem Agr.eq {mods : List Nat} {vars : List (Nat × Value)} {env e : Env} (h : Agr mods vars env e) : e = puts vars (scr mods e env) := by
  refine Env.ext' (fun t => ?_) (by rw [puts_ds]; exact h.1.2)
  obtain ⟨⟨h1, _⟩, h2⟩ := h
  induction vars with
  | nil =>
    simp only [puts, scr]
    cases ht : has mods t with
    | true => rfl
    | false => exact h1 t ht
  | cons x l ih =>
    obtain ⟨d, v⟩ := x
    by_cases htd : t = d
    · subst htd
      rw [puts, Env.put_same]
      exact h2 (t, v) (List.mem_cons_self ..)
    · rw [puts, Env.put_other _ _ htd]
      exact ih (fun x hx => h2 x (List.mem_cons_of_mem _ hx))
def Out (mods : List Nat) (env e : Env) : Prop := (∀ t, has mods t = false → e t = env t) ∧ e.ds = env.ds
theorem Out.refl (mods : List Nat) (env : Env) : Out mods env env := ⟨fun _ _ => rfl, rfl⟩
theorem Out.scr {mods : List Nat} {env e u : Env} (h : Out mods env e) : Out mods env (scr mods u e) := ⟨fun t ht => by
  simp only [E.scr, ht, cond_false]; exact h.1 t ht, h.2⟩
theorem Out.scr' {mods ms : List Nat} {env e u : Env} (hs : ms.all (fun x => has mods x) = true) (h : Out mods env e) : Out mods env (E.scr ms u e) := ⟨fun t ht => by
  simp only [E.scr]
  cases hc : has ms t with
  | false => exact h.1 t ht
  | true =>
    have : t ∈ ms := has_mem hc
    have := (List.all_eq_true.1 hs) t this
    exact absurd (ht.symm.trans this) (by decide), h.2⟩
theorem Out.put {mods : List Nat} {env e : Env} {d : Nat} {v : Value} (hd : has mods d = true) (h : Out mods env e) : Out mods env (e.put d v) := ⟨fun t ht => by
  rw [Env.put_other _ _ (fun e => by subst e; rw [ht] at hd; cases hd)]; exact h.1 t ht, h.2⟩
theorem Out.putO {mods : List Nat} {env e : Env} {d : Nat} {v : Value} (hd : has mods d = true) (h : Out mods env e) : Out mods env (e.putO (some d) v) := Out.put hd h
theorem Out.putN {mods : List Nat} {env e : Env} {v : Value} (h : Out mods env e) : Out mods env (e.putO none v) := h
theorem Out.puts {mods : List Nat} {env e : Env} : ∀ {vars : List (Nat × Value)}, vars.all (fun x => has mods x.1) = true → Out mods env e → Out mods env (puts vars e)
  | [], _, h => h
  | (d, v) :: l, hv, h => by
    simp only [List.all_cons, Bool.and_eq_true] at hv
    exact Out.put hv.1 (Out.puts hv.2 h)

def loopQ {γ : Type} (mods : List Nat) (vars : γ → List (Nat × Value)) (H : γ → List Assn) (inv : γ → Prop) (μ : γ → Nat) (env0 : Env) (g : γ) (Q : EQ) : EQ := fun x e L => match x with
  | .normal => ∃ g', inv g' ∧ μ g' < μ g ∧ Agr mods (vars g') env0 e ∧ Sub (H g') L
  | x => Q x e L
theorem TC.loop {γ : Type} (mods : List Nat) (vars : γ → List (Nat × Value)) (H : γ → List Assn) (inv : γ → Prop) (μ : γ → Nat) {c : Code}
    (g0 : γ) (h0 : inv g0) (henv : Agr mods (vars g0) env env) (hL : Sub (H g0) L)
    (step : ∀ g u, inv g → TC C c (loopQ mods vars H inv μ env g Q) (puts (vars g) (scr mods u env)) (H g)) : TC C (.loop c) Q env L := by
  intro a w ha hw b k cs hro hb hr
  have key : ∀ j g, μ g = j → inv g → ∀ a w e, Fits C.n a e → Agr mods (vars g) env e → St C.w0 C.M (H g) w →
      ∃ x a' w', lift C Q x a' w' ∧ ArrivesIn (Machine.fenced C.P (FW C.r)) C.P (lone (b.atR a (.code c :: .inLoop c :: k)) cs w) b k cs x a' w' := by
    intro j
    induction j using Nat.strongRecOn with
    | _ j ih =>
      intro g hj hi a w e hf hag hst
      obtain ⟨x, a₁, w₁, ⟨e1, L1, hf1, hs1, hq1⟩, harr⟩ := step g e hi a w (by rw [← hag.eq]; exact hf) hst b (.inLoop c :: k) cs hro hb hr
      cases x with
      | normal =>
        obtain ⟨g', hi', hlt, hag', hsub⟩ := hq1
        obtain ⟨x₂, a₂, w₂, hq₂, harr₂⟩ := ih (μ g') (hj ▸ hlt) g' rfl hi' a₁ w₁ e1 hf1 hag' (hs1.sub hsub)
        exact ⟨x₂, a₂, w₂, hq₂, .of_steps (StepsIn.trans harr (.one (fenced_calm hb hr rfl) stepR_inLoop)) harr₂⟩
      | exit id => exact ⟨_, a₁, w₁, ⟨e1, L1, hf1, hs1, hq1⟩, .pass (x := .inLoop c) rfl (fun _ _ => .inl (by simp)) harr⟩
      | goto l => exact ⟨_, a₁, w₁, ⟨e1, L1, hf1, hs1, hq1⟩, .pass (x := .inLoop c) rfl (fun _ _ => .inl (by simp)) harr⟩
      | ret => exact ⟨_, a₁, w₁, ⟨e1, L1, hf1, hs1, hq1⟩, .pass (x := .inLoop c) rfl (fun _ _ => .inl (by simp)) harr⟩
      | panic ch => exact ⟨_, a₁, w₁, ⟨e1, L1, hf1, hs1, hq1⟩, .pass (x := .inLoop c) rfl (fun _ _ => .inl (by simp)) harr⟩
      | outgrown => exact ⟨_, a₁, w₁, ⟨e1, L1, hf1, hs1, hq1⟩, .pass (x := .inLoop c) rfl (fun _ _ => .inl (by simp)) harr⟩
  obtain ⟨x, a', w', hq, harr⟩ := key _ g0 rfl h0 a w env ha henv (hw.sub hL)
  exact ⟨x, a', w', hq, .of_steps (.one (fenced_calm hb hr rfl) stepR_loop) harr⟩
end Go.E
