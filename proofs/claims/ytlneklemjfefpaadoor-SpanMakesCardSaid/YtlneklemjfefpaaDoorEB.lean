/-
  The program logic, second part: one operation; regions in the order of the text; regions that draw their order;
  calls; a function's entry and its results.
-/
import Derived.Test.YtlneklemjfefpaaDoorEA
import Derived.RangeFuncCalls
namespace Go.E
set_option linter.unusedVariables false
variable {C : Ctx} {Q : EQ} {env : Env} {L : List Assn}

/-- What an operation's run comes to. -/
def Res (P : Program) (r : Option Nat) (Φ : Value → World → Prop) : Result Next → Prop
  | .ok (.value v) w' => Φ v w'
  | .ok .skip w' => Φ undef w'
  | .ok (.enter f args) w' => Calls P f args w' fun e w'' => ∃ v, e = .returned v ∧ Φ v w''
  | .ok (.row row args) w' => RowsIn (FW r) 0 P row args w' Φ
  | .ok (.round l f tmps assign body) w' => RoundIn (FW r) 0 P l f tmps assign body w' fun e w'' => ∃ v, e = .returned v ∧ Φ v w''
  | _ => False

theorem Res.mono {P : Program} {r : Option Nat} {Φ Φ' : Value → World → Prop} {x : Result Next} (h : Res P r Φ x) (hm : ∀ v w, Φ v w → Φ' v w) : Res P r Φ' x := by
  cases x with
  | ok n w' =>
    cases n <;> simp only [Res] at h ⊢
    case value v => exact hm _ _ h
    case skip => exact hm _ _ h
    case enter f args => exact h.mono fun _ _ ⟨v, he, hv⟩ => ⟨v, he, hm _ _ hv⟩
    case row row args => exact h.mono hm
    case round l f tmps assign body => exact h.mono fun _ _ ⟨v, he, hv⟩ => ⟨v, he, hm _ _ hv⟩
  | halt x w' => exact h

theorem callsIn_FW {P : Program} {r : Option Nat} {n : Nat} {f : FuncId} {args : Array Value} {w : World} {R : Ending → World → Prop} (h : Calls P f args w R) : CallsIn (FW r) n P f args w R := by
  have h1 : CallsIn Fence.wide n P f args w R := callsIn_wide.2 h
  cases r with
  | none => exact h1
  | some l => exact h1.inRound l

theorem Res.upon {P : Program} {r : Option Nat} {Φ : Value → World → Prop} {x : Result Next} {o : Oper} {a : Act} {K : Act → World → Prop} {Q : Exit → Act → World → Prop}
    (h : Res P r Φ x) (hk : ∀ v w', Φ v w' → K (a.put o.dst v) w') : o.uponIn (FW r) 0 P a K Q x := by
  cases x with
  | ok n w' =>
    cases n <;> simp only [Res] at h <;> simp only [Oper.uponIn]
    case value v => exact hk _ _ h
    case skip => exact hk _ _ h
    case enter f args =>
      exact ⟨(fun h => nomatch h), (callsIn_FW h).mono fun e w'' ⟨v, he, hv⟩ => by subst he; exact hk _ _ hv⟩
    case row row args => exact ⟨(fun h => nomatch h), h.mono fun v w'' hv => hk _ _ hv⟩
    case round l f tmps assign body => exact ⟨(fun h => nomatch h), h.mono fun e w'' ⟨v, he, hv⟩ => by subst he; exact hk _ _ hv⟩
  | halt x w' => simp only [Res] at h

def isDefer (o : Oper) : Bool := match o.op with
  | .defer _ => true
  | _ => false
def isSelect (o : Oper) : Bool := match o.op with
  | .select _ _ => true
  | _ => false
theorem notDefer {o : Oper} (h : isDefer o = false) : ∀ c, o.op ≠ .defer c := fun c hc => by simp [isDefer, hc] at h
theorem notSelect {o : Oper} (h : isSelect o = false) : ∀ cs b, o.op ≠ .select cs b := fun c b hc => by simp [isSelect, hc] at h

/-- One operation, in this environment, from whatever world of this kind. -/
def OpV (C : Ctx) (o : Oper) (env : Env) (L : List Assn) (K : Value → List Assn → Prop) : Prop :=
  ∀ w, St C.w0 C.M L w → Res C.P C.r (fun v w' => ∃ L', St C.w0 C.M L' w' ∧ K v L') ((execOp env.ev o).run C.P w)
theorem OpV.mono {o : Oper} {K K' : Value → List Assn → Prop} (h : OpV C o env L K) (hk : ∀ v L', K v L' → K' v L') : OpV C o env L K' :=
  fun w hw => (h w hw).mono fun _ _ ⟨L', h1, h2⟩ => ⟨L', h1, hk _ _ h2⟩
theorem OpV.sub {o : Oper} {K : Value → List Assn → Prop} {L' : List Assn} (h : OpV C o env L K) (s : Sub L L') : OpV C o env L' K := fun w hw => h w (hw.sub s)

def wantedE (ops : Array Oper) (env : Env) (o : Oper) : Bool := Region.wanted o (yieldedE ops env)

/-- The operations of a region that does not draw, from here on. -/
def TL (C : Ctx) (ops : Array Oper) (Q : EQ) (l : List Oper) (env : Env) (L : List Assn) : Prop :=
  ∀ a w, Fits C.n a env → St C.w0 C.M L w → wpListIn (FW C.r) 0 C.P ops (lift C Q) l a w

variable {ops : Array Oper} {o : Oper} {rest : List Oper}
theorem TL.sub {l : List Oper} {L L' : List Assn} (h : TL C ops Q l env L) (s : Sub L L') : TL C ops Q l env L' := fun a w ha hw => h a w ha (hw.sub s)
theorem TL.nil (h : Q .normal env L) : TL C ops Q [] env L := fun _ _ ha hw => wpListIn_nil ⟨env, L, ha, hw, h⟩
theorem wpIn_of_OpV {o : Oper} {a : Act} {w : World} {K : Act → World → Prop} {Q' : Exit → Act → World → Prop} {K' : Value → List Assn → Prop} (hnd : isDefer o = false) (ha : Fits C.n a env) (hw : St C.w0 C.M L w)
    (h : OpV C o env L K') (hk : ∀ v L' w', St C.w0 C.M L' w' → K' v L' → K (a.put o.dst v) w') : o.wpIn (FW C.r) 0 C.P a w K Q' := by
  refine ⟨fun _ _ => trivial, ?_⟩
  rw [Oper.semAt_eq _ _ _ (notDefer hnd), ha.ev]
  exact (h w hw).upon fun v w' ⟨L', h1, h2⟩ => hk v L' w' h1 h2
theorem TL.step (hg : o.guard = none) (hd : dlt o.dst C.n = true) (hnd : isDefer o = false)
    (h : OpV C o env L fun v L' => TL C ops Q rest (env.putO o.dst v) L') : TL C ops Q (o :: rest) env L := fun a w ha hw =>
  wpListIn_plain hg fun K hK => wpIn_of_OpV hnd ha hw h fun v L' w' h1 h2 => hK _ _ (h2 _ _ (ha.putO hd v) h1)
theorem TL.stepg (hg : wantedE ops env o = true) (hd : dlt o.dst C.n = true) (hnd : isDefer o = false)
    (h : OpV C o env L fun v L' => TL C ops Q rest (env.putO o.dst v) L') : TL C ops Q (o :: rest) env L := fun a w ha hw =>
  wpListIn_step fun K hK => by
    rw [yielded_eq ha, if_pos (by exact hg)]
    exact wpIn_of_OpV hnd ha hw h fun v L' w' h1 h2 => hK _ _ (h2 _ _ (ha.putO hd v) h1)
theorem TL.pass (hg : wantedE ops env o = false) (hd : dlt o.dst C.n = true) (h : TL C ops Q rest (env.putO o.dst undef) L) : TL C ops Q (o :: rest) env L := fun a w ha hw =>
  wpListIn_step fun K hK => by
    have hg' : Region.wanted o (yieldedE ops env) = false := hg
    rw [yielded_eq ha, hg', if_neg (by simp)]
    exact ⟨fun _ _ => trivial, hK _ _ (h _ _ (ha.putO hd _) hw)⟩
theorem TC.region {id : Nat} {l : List Oper} (h : TL C l.toArray Q l env L) : TC C (.region id l.toArray false) Q env L := fun a w ha hw => wpIn_region_lit (h a w ha hw)

/-! ### a region that draws its order -/
/-- It yields this value, and what was known is known still. -/
def Cal (C : Ctx) (o : Oper) (env : Env) (v : Value) (L : List Assn) : Prop :=
  ∀ w, St C.w0 C.M L w → Res C.P C.r (fun u w' => u = v ∧ St C.w0 C.M L w') ((execOp env.ev o).run C.P w)
theorem Cal.opv {o : Oper} {v : Value} {K : Value → List Assn → Prop} (h : Cal C o env v L) (hk : K v L) : OpV C o env L K :=
  fun w hw => (h w hw).mono fun u w' ⟨hu, hs⟩ => ⟨L, hs, hu ▸ hk⟩
theorem Cal.perm {o : Oper} {v : Value} {L' : List Assn} (h : Cal C o env v L) (p : L.Perm L') : Cal C o env v L' :=
  fun w hw => (h w (hw.perm p.symm)).mono fun u w' ⟨hu, hs⟩ => ⟨hu, hs.perm p⟩
/-- Whatever order is picked from here on. F: what every operation leaves. E.1: the operations that may change what is known; E.2: those that only add to it. -/
def AW (C : Ctx) (ops : Array Oper) (Q : EQ) (E : List Nat × List Nat) (F : List Assn) : Nat → Array Bool → Env → List Assn → Prop
  | 0, listed, env, X => Region.ready .any ops listed = [] ∧ Q .normal env (F ++ X)
  | n + 1, listed, env, X => (Region.ready .any ops listed = [] → Q .normal env (F ++ X)) ∧
    ∀ i ∈ Region.ready .any ops listed, ∀ o, ops[i]? = some o → dlt o.dst C.n = true ∧ isDefer o = false ∧
      if wantedE ops env o then
        (if has E.1 i then OpV C o env (F ++ X) (fun v L' => ∃ X', Sub (F ++ X') L' ∧ AW C ops Q E F n (listed.setIfInBounds i true) (env.putO o.dst v) X')
        else if has E.2 i then OpV C o env (F ++ X) (fun v L' => ∃ X', Sub (F ++ X') L' ∧ Sub X X' ∧ AW C ops Q E F n (listed.setIfInBounds i true) (env.putO o.dst v) X')
        else ∃ v, Cal C o env v (F ++ X) ∧ AW C ops Q E F n (listed.setIfInBounds i true) (env.putO o.dst v) X)
      else AW C ops Q E F n (listed.setIfInBounds i true) (env.putO o.dst undef) X

theorem AW.sound {E : List Nat × List Nat} {F : List Assn} : ∀ (k : Nat) (listed : Array Bool) (env : Env) (X : List Assn), AW C ops Q E F k listed env X →
    ∀ a w, Fits C.n a env → St C.w0 C.M (F ++ X) w → wpAnyIn (FW C.r) 0 C.P .any ops (lift C Q) k listed a w := by
  intro k
  induction k with
  | zero => intro listed env X h a w ha hw; exact ⟨h.1, ⟨env, F ++ X, ha, hw, h.2⟩⟩
  | succ k ih =>
    intro listed env X h a w ha hw
    refine ⟨fun h0 => ⟨env, F ++ X, ha, hw, h.1 h0⟩, fun i hi => ?_⟩
    unfold wpOpIn
    cases ho : ops[i]? with
    | none =>
      have := (mem_ready.1 hi).2
      obtain ⟨o, ho', _⟩ := this
      rw [ho] at ho'; cases ho'
    | some o =>
      obtain ⟨hd, hnd, hop⟩ := h.2 i hi o ho
      simp only
      rw [yielded_eq ha]
      by_cases hwn : wantedE ops env o = true
      · rw [if_pos hwn] at hop
        rw [if_pos (by exact hwn)]
        have hop' : OpV C o env (F ++ X) (fun v L' => ∃ X', Sub (F ++ X') L' ∧ AW C ops Q E F k (listed.setIfInBounds i true) (env.putO o.dst v) X') := by
          by_cases he : has E.1 i = true
          · rw [if_pos he] at hop; exact hop
          · rw [if_neg he] at hop
            by_cases hn : has E.2 i = true
            · rw [if_pos hn] at hop; exact hop.mono fun v L' ⟨X', h1, _, h2⟩ => ⟨X', h1, h2⟩
            rw [if_neg hn] at hop
            obtain ⟨v, h1, h2⟩ := hop
            exact h1.opv ⟨X, Sub.refl _, h2⟩
        exact wpIn_of_OpV hnd ha hw hop' fun v L' w' h1 ⟨X', hs, h2⟩ => ih _ _ _ h2 _ _ (ha.putO hd v) (h1.sub hs)
      · rw [if_neg hwn] at hop
        rw [if_neg (by exact hwn)]
        exact ⟨fun _ _ => trivial, ih _ _ _ hop _ _ (ha.putO hd _) hw⟩

/-- It yields this value, whatever else has been done, where F is known. -/
def Det (C : Ctx) (o : Oper) (env : Env) (v : Value) (F : List Assn) : Prop := ∀ X, Cal C o env v (F ++ X)
/-- Either not asked for; or it yields this value in every state of this kind. -/
def YieldE (C : Ctx) (ops : Array Oper) (o : Oper) (env : Env) (v : Value) (F : List Assn) (G : List Assn → Prop) (H : Prop) : Prop :=
  (wantedE ops env o = true ∧ H ∧ ∀ X, G X → Cal C o env v (F ++ X)) ∨ (wantedE ops env o = false ∧ v = undef)

theorem ev_putO {env : Env} {dst : Option Nat} {v : Value} {x : Operand} (h : ∀ d, dst = some d → x ≠ .tmp d) : (env.putO dst v).ev x = env.ev x := by
  cases dst with
  | none => rfl
  | some d =>
    cases x with
    | tmp t => exact Env.put_other _ _ (fun e => h d rfl (e ▸ rfl))
    | _ => rfl
theorem execOp_putE (o : Oper) (hs : isSelect o = false) (env : Env) (dst : Option Nat) (v : Value) (h : ∀ d, dst = some d → d ∉ o.looksAt ops) :
    execOp (env.putO dst v).ev o = execOp env.ev o :=
  execOp_congr o (notSelect hs) fun x hx => ev_putO fun d hd hxd => h d hd (by
    subst hxd
    exact List.mem_append_left _ (List.mem_filterMap.2 ⟨.tmp d, by simpa using hx, rfl⟩))
theorem wanted_putE (o : Oper) (env : Env) (dst : Option Nat) (v : Value) (h : ∀ d, dst = some d → d ∉ o.looksAt ops) :
    wantedE ops (env.putO dst v) o = wantedE ops env o := by
  cases dst with
  | none => rfl
  | some d =>
    unfold wantedE Region.wanted
    cases hg : o.guard with
    | none => rfl
    | some gw =>
      obtain ⟨g, want⟩ := gw
      have hy : yieldedE ops (env.putO (some d) v) g = yieldedE ops env g := by
        unfold yieldedE
        cases ht : (ops[g]?).bind (·.dst) with
        | none => rfl
        | some t =>
          have hne : t ≠ d := fun e => h d rfl (by subst e; simp [Oper.looksAt, hg, ht])
          simp only [Env.putO, Env.put_other _ _ hne]
      simp only [hy]
theorem putO_comm (env : Env) {x y : Option Nat} (v u : Value) (h : ∀ d, x = some d → y ≠ some d) : (env.putO x v).putO y u = (env.putO y u).putO x v := by
  cases x with
  | none => rfl
  | some d =>
    cases y with
    | none => rfl
    | some e =>
      have hne : d ≠ e := fun he => h d rfl (he ▸ rfl)
      refine Env.ext' (fun t => ?_) rfl
      simp only [Env.putO]
      by_cases h1 : t = e
      · subst h1
        rw [Env.put_same, Env.put_other _ _ (Ne.symm hne), Env.put_same]
      · rw [Env.put_other _ _ h1]
        by_cases h2 : t = d
        · subst h2; rw [Env.put_same, Env.put_same]
        · rw [Env.put_other _ _ h2, Env.put_other _ _ h2, Env.put_other _ _ h1]
theorem YieldE.put {oi : Oper} {v : Value} {F : List Assn} {G : List Assn → Prop} {H : Prop} (hs : isSelect oi = false) (hy : YieldE C ops oi env v F G H) {dst : Option Nat} (u : Value) (h : ∀ d, dst = some d → d ∉ oi.looksAt ops) : YieldE C ops oi (env.putO dst u) v F G H := by
  unfold YieldE Cal at *
  rw [wanted_putE oi env dst u h, execOp_putE oi hs env dst u h]
  exact hy

def noSelect (ops : Array Oper) : Prop := ∀ (j : Nat) (o : Oper), ops[j]? = some o → isSelect o = false

/-- An operation that may come up now, and that yields its value whatever else is done before it, may be taken first. -/
theorem AW.first {E : List Nat × List Nat} {F : List Assn} {i : Nat} {oi : Oper} {v : Value} {G : List Assn → Prop} (hi : ops[i]? = some oi) (hsel : noSelect ops) (hd : dlt oi.dst C.n = true) (hnd : isDefer oi = false) (hup : ∀ X Y, Sub X Y → G X → G Y)
    {S : List Nat} (hS : ∀ j ∈ S, ∀ oj, ops[j]? = some oj → ∃ e ∈ oj.after, Region.binds .any e = true ∧ (e.on = i ∨ e.on ∈ S)) :
    ∀ (k : Nat) (listed : Array Bool) (env : Env) (X : List Assn),
      (∀ j oj, ops[j]? = some oj → j ≠ i → listed.getD j true = false → (∀ e ∈ oj.after, Region.binds .any e = true → e.on ≠ i) → oi.apart ops oj = true) →
      (∀ j ∈ S, listed.getD j true = false) → (∀ j, j ≠ i → listed.getD j true = false → j ∉ S → has E.1 j = true → ∀ X, G X) → G X →
      i ∈ Region.ready .any ops listed → YieldE C ops oi env v F G (has E.1 i = false ∧ has E.2 i = false) →
      AW C ops Q E F k (listed.setIfInBounds i true) (env.putO oi.dst v) X → AW C ops Q E F (k + 1) listed env X := by
  intro k
  have own : ∀ (k : Nat) (listed : Array Bool) (env : Env) (X : List Assn), G X → YieldE C ops oi env v F G (has E.1 i = false ∧ has E.2 i = false) → AW C ops Q E F k (listed.setIfInBounds i true) (env.putO oi.dst v) X →
      dlt oi.dst C.n = true ∧ isDefer oi = false ∧
      if wantedE ops env oi then
        (if has E.1 i then OpV C oi env (F ++ X) (fun v L' => ∃ X', Sub (F ++ X') L' ∧ AW C ops Q E F k (listed.setIfInBounds i true) (env.putO oi.dst v) X')
        else if has E.2 i then OpV C oi env (F ++ X) (fun v L' => ∃ X', Sub (F ++ X') L' ∧ Sub X X' ∧ AW C ops Q E F k (listed.setIfInBounds i true) (env.putO oi.dst v) X')
        else ∃ v, Cal C oi env v (F ++ X) ∧ AW C ops Q E F k (listed.setIfInBounds i true) (env.putO oi.dst v) X)
      else AW C ops Q E F k (listed.setIfInBounds i true) (env.putO oi.dst undef) X := by
    intro k listed env X hG hy H
    refine ⟨hd, hnd, ?_⟩
    rcases hy with ⟨hw, hE, hdet⟩ | ⟨hw, rfl⟩
    · rw [if_pos hw, if_neg (by simp [hE.1]), if_neg (by simp [hE.2])]
      exact ⟨v, hdet X hG, H⟩
    · rw [if_neg (by simp [hw])]
      exact H
  induction k with
  | zero =>
    intro listed env X _ _ _ hG hr hy H
    refine ⟨fun h => (by rw [h] at hr; cases hr), fun j hj o ho => ?_⟩
    by_cases hji : j = i
    · subst hji
      obtain rfl : o = oi := by rw [hi] at ho; injection ho with e; exact e.symm
      exact own 0 listed env X hG hy H
    · have := ready_mono hj hji
      rw [H.1] at this
      cases this
  | succ k ih =>
    intro listed env X hfree hun hcal hG hr hy H
    refine ⟨fun h => (by rw [h] at hr; cases hr), fun j hj oj hoj => ?_⟩
    by_cases hji : j = i
    · subst hji
      obtain rfl : oj = oi := by rw [hi] at hoj; injection hoj with e; exact e.symm
      exact own _ listed env X hG hy H
    · obtain ⟨hdj, hndj, h1⟩ := H.2 j (ready_mono hj hji) oj hoj
      obtain ⟨hjun, oj', hoj', hall⟩ := mem_ready.1 hj
      obtain rfl : oj' = oj := by rw [hoj] at hoj'; injection hoj' with e; exact e.symm
      have hnot : ∀ e ∈ oj'.after, Region.binds .any e = true → e.on ≠ i := fun e he hb heq => by
        have h1 := hall e he hb
        have h0 := (mem_ready.1 hr).1
        rw [heq] at h1
        rcases Nat.lt_or_ge i listed.size with h' | h'
        · simp [h'] at h0 h1; rw [h0] at h1; cases h1
        · simp [Array.getElem?_eq_none h'] at h1
      obtain ⟨a1, a2, a3⟩ := Oper.apart_spec (hfree j oj' hoj hji hjun hnot)
      have hsi := hsel i oi hi
      have hsj := hsel j oj' hoj
      have hun' : ∀ m, (listed.setIfInBounds j true).getD m true = false → listed.getD m true = false := fun m hun => by
        by_cases hjm : j = m
        · subst hjm; exact hjun
        · rw [getD_set_ne true hjm] at hun; exact hun
      have hfree' : ∀ m om, ops[m]? = some om → m ≠ i → (listed.setIfInBounds j true).getD m true = false →
          (∀ e ∈ om.after, Region.binds .any e = true → e.on ≠ i) → oi.apart ops om = true := fun m om hom hmi hun hno => hfree m om hom hmi (hun' m hun) hno
      have hjS : j ∉ S := fun hjS => by
        obtain ⟨e, he, hb, h2⟩ := hS j hjS oj' hoj'
        rcases h2 with h2 | h2
        · exact hnot e he hb h2
        · have h3 := hall e he hb
          have h4 := hun e.on h2
          rcases Nat.lt_or_ge e.on listed.size with h' | h'
          · simp [h'] at h3 h4; rw [h4] at h3; cases h3
          · simp [Array.getElem?_eq_none h'] at h3
      have hun2 : ∀ m ∈ S, (listed.setIfInBounds j true).getD m true = false := fun m hm => by
        have hjm : j ≠ m := fun e => hjS (by rw [e]; exact hm)
        rw [getD_set_ne true hjm]; exact hun m hm
      have hcal' : ∀ m, m ≠ i → (listed.setIfInBounds j true).getD m true = false → m ∉ S → has E.1 m = true → ∀ X, G X := fun m hmi hun hno => hcal m hmi (hun' m hun) hno
      refine ⟨hdj, hndj, ?_⟩
      rw [wanted_putE oj' env oi.dst v a1] at h1
      by_cases hwj : wantedE ops env oj' = true
      · rw [if_pos hwj] at h1 ⊢
        by_cases hej : has E.1 j = true
        · rw [if_pos hej] at h1 ⊢
          intro w hw
          have h2 := h1 w hw
          rw [execOp_putE oj' hsj env oi.dst v a1] at h2
          refine h2.mono fun u w' ⟨L', hs, X', hsub, hA⟩ => ⟨L', hs, X', hsub, ?_⟩
          refine ih _ _ _ hfree' hun2 hcal' (hcal j hji hjun hjS hej X') (ready_mono hr (Ne.symm hji)) (hy.put hsi u a3) ?_
          rw [Array.setIfInBounds_comm _ _ hji, ← putO_comm env v u a2]
          exact hA
        · rw [if_neg hej] at h1 ⊢
          by_cases hnj : has E.2 j = true
          · rw [if_pos hnj] at h1 ⊢
            intro w hw
            have h2 := h1 w hw
            rw [execOp_putE oj' hsj env oi.dst v a1] at h2
            refine h2.mono fun u w' ⟨L', hs, X', hsub, hXX, hA⟩ => ⟨L', hs, X', hsub, hXX, ?_⟩
            refine ih _ _ _ hfree' hun2 hcal' (hup X X' hXX hG) (ready_mono hr (Ne.symm hji)) (hy.put hsi u a3) ?_
            rw [Array.setIfInBounds_comm _ _ hji, ← putO_comm env v u a2]
            exact hA
          rw [if_neg hnj] at h1 ⊢
          obtain ⟨u, hc, hA⟩ := h1
          unfold Cal at hc
          rw [execOp_putE oj' hsj env oi.dst v a1] at hc
          refine ⟨u, hc, ih _ _ _ hfree' hun2 hcal' hG (ready_mono hr (Ne.symm hji)) (hy.put hsi u a3) ?_⟩
          rw [Array.setIfInBounds_comm _ _ hji, ← putO_comm env v u a2]
          exact hA
      · rw [if_neg hwj] at h1 ⊢
        refine ih _ _ _ hfree' hun2 hcal' hG (ready_mono hr (Ne.symm hji)) (hy.put hsi _ a3) ?_
        rw [Array.setIfInBounds_comm _ _ hji, ← putO_comm env v _ a2]
        exact h1

/-! #### one by one -/
/-- dn: the operations that have been handled. -/
def listedK (n : Nat) (dn : List Nat) : Array Bool := ((List.range n).map fun i => has dn i).toArray
theorem listedK_size (n : Nat) (dn : List Nat) : (listedK n dn).size = n := by simp [listedK]
theorem listedK_set (n : Nat) (dn : List Nat) (k : Nat) : (listedK n dn).setIfInBounds k true = listedK n (k :: dn) := by
  apply Array.ext
  · simp [listedK]
  · intro i h1 h2
    have hin : i < n := by simpa [listedK] using h2
    by_cases hik : k = i
    · subst hik
      simp [listedK, has]
    · rw [Array.getElem_setIfInBounds (by simpa [listedK] using hin)]
      rw [if_neg hik]
      simp only [listedK, List.getElem_toArray, List.getElem_map, List.getElem_range, has]
      cases hb : Nat.beq k i with
      | true => exact absurd (Nat.eq_of_beq_eq_true hb) hik
      | false => rfl
theorem listedK_zero (n : Nat) : listedK n [] = Array.replicate n false := by
  apply Array.ext
  · simp [listedK]
  · intro i h1 h2
    simp [listedK, has]
def freeK (ops : Array Oper) (dn : List Nat) (k : Nat) (oi : Oper) : Bool := (List.range ops.size).all fun j =>
  Nat.beq j k || has dn j || (match ops[j]? with
    | some oj => oj.after.any (fun e => Region.binds .any e && Nat.beq e.on k) || oi.apart ops oj
    | none => true)
/-- Operation k may come up now. -/
def readyK (dn : List Nat) (o : Oper) : Bool := o.after.all fun e => !Region.binds .any e || has dn e.on
def firstK (ops : Array Oper) (dn : List Nat) (k : Nat) : Bool := match ops[k]? with
  | some o => readyK dn o && (!has dn k && (Nat.blt dn.length ops.size && freeK ops dn k o))
  | none => false
theorem getD_listedK {n j : Nat} {dn : List Nat} (hj : j < n) (d : Bool) : (listedK n dn).getD j d = has dn j := by
  have hs : j < (listedK n dn).size := by rw [listedK_size]; exact hj
  rw [Array.getD_eq_getD_getElem?, Array.getElem?_eq_getElem hs, Option.getD_some]
  simp [listedK]
theorem blt_lt {j k : Nat} (h : Nat.blt j k = true) : j < k := by simpa using h
theorem anyA {α : Type} {xs : Array α} {p : α → Bool} (h : xs.any p = true) : ∃ e, e ∈ xs ∧ p e = true := by
  obtain ⟨i, hi, hp⟩ := Array.any_eq_true.1 h
  exact ⟨xs[i], Array.getElem_mem hi, hp⟩
/-- The operations that wait for k, at once or by others. -/
def waitsOn (ops : Array Oper) (k : Nat) : List Nat := (List.range ops.size).foldl (fun S j =>
  if (match ops[j]? with
    | some oj => oj.after.any (fun e => Region.binds .any e && (Nat.beq e.on k || has S e.on))
    | none => false) then j :: S else S) []
/-- No operation that may come before k changes what is known. -/
def calmK (ops : Array Oper) (E : List Nat × List Nat) (dn : List Nat) (k : Nat) : Bool :=
  (waitsOn ops k).all (fun j => !has dn j && (match ops[j]? with
    | some oj => oj.after.any (fun e => Region.binds .any e && (Nat.beq e.on k || has (waitsOn ops k) e.on))
    | none => false)) && E.1.all (fun j => Nat.beq j k || has dn j || has (waitsOn ops k) j)
def AWk (C : Ctx) (ops : Array Oper) (Q : EQ) (E : List Nat × List Nat) (F : List Assn) (dn : List Nat) (env : Env) (X : List Assn) : Prop :=
  AW C ops Q E F (ops.size - dn.length) (listedK ops.size dn) env X

theorem ready_at {dn : List Nat} {k : Nat} {o : Oper} (ho : ops[k]? = some o) (hr : readyK dn o = true) (hk : has dn k = false) (hlt : ∀ e ∈ o.after, Region.binds .any e = true → e.on < ops.size) : k ∈ Region.ready .any ops (listedK ops.size dn) := by
  have hkn : k < ops.size := (Array.getElem?_eq_some_iff.1 ho).1
  refine mem_ready.2 ⟨by rw [getD_listedK hkn]; exact hk, o, ho, fun e he hb => ?_⟩
  have := (Array.all_eq_true_iff_forall_mem.1 hr) e he
  simp only [hb, Bool.not_true, Bool.false_or] at this
  rw [getD_listedK (hlt e he hb)]
  exact this
/-- What waits, waits for operations of the region. -/
def within (ops : Array Oper) (o : Oper) : Bool := o.after.all fun e => Nat.blt e.on ops.size
theorem within_lt {o : Oper} (h : within ops o = true) : ∀ e ∈ o.after, Region.binds .any e = true → e.on < ops.size := fun e he _ =>
  blt_lt ((Array.all_eq_true_iff_forall_mem.1 h) e he)
theorem AWk.detG {E : List Nat × List Nat} {F X : List Assn} {dn : List Nat} {k : Nat} {o : Oper} {v : Value} {G : List Assn → Prop} (ho : ops[k]? = some o) (hk : (firstK ops dn k && within ops o) = true) (hsel : noSelect ops) (hd : dlt o.dst C.n = true) (hnd : isDefer o = false)
    (hup : ∀ X Y, Sub X Y → G X → G Y) (hc : calmK ops E dn k = true ∨ ∀ X, G X) (hG : G X) (hy : YieldE C ops o env v F G (has E.1 k = false ∧ has E.2 k = false)) (h : AWk C ops Q E F (k :: dn) (env.putO o.dst v) X) : AWk C ops Q E F dn env X := by
  have hlt : k < ops.size := (Array.getElem?_eq_some_iff.1 ho).1
  simp only [firstK, ho, Bool.and_eq_true] at hk
  obtain ⟨⟨hr, hnk, hbl, hf⟩, hwi⟩ := hk
  have hnk' : has dn k = false := by simpa using hnk
  have hln := blt_lt hbl
  have h1 : AW C ops Q E F (ops.size - (dn.length + 1)) (listedK ops.size (k :: dn)) (env.putO o.dst v) X := h
  have e : ops.size - dn.length = (ops.size - (dn.length + 1)) + 1 := by omega
  show AW C ops Q E F (ops.size - dn.length) (listedK ops.size dn) env X
  rw [e]
  have hrd := ready_at ho hr hnk' (within_lt hwi)
  have hmain : ∀ (S : List Nat), (∀ j ∈ S, has dn j = false) → (∀ j ∈ S, ∀ oj, ops[j]? = some oj → ∃ e ∈ oj.after, Region.binds .any e = true ∧ (e.on = k ∨ e.on ∈ S)) → (∀ j ∈ S, j < ops.size) →
      (∀ j, j ≠ k → has dn j = false → j ∉ S → has E.1 j = true → ∀ X, G X) → AW C ops Q E F ((ops.size - (dn.length + 1)) + 1) (listedK ops.size dn) env X := fun S hS1 hS2 hS3 hS4 => by
    refine AW.first (G := G) ho hsel hd hnd hup hS2 _ _ _ _ (fun j oj hoj hji hun hno => ?_) (fun j hj => ?_) (fun j hji hun hjS hej X' => ?_) hG hrd hy (by rw [listedK_set]; exact h1)
    · have hjn : j < ops.size := (Array.getElem?_eq_some_iff.1 hoj).1
      have hj := (List.all_eq_true.1 hf) j (List.mem_range.2 hjn)
      rw [getD_listedK hjn] at hun
      simp only [hun, Bool.or_false, Bool.or_eq_true, hoj] at hj
      rcases hj with hj | hj
      · exact absurd (Nat.eq_of_beq_eq_true hj) hji
      · rcases hj with hj | hj
        · obtain ⟨e, he, hb⟩ := anyA hj
          simp only [Bool.and_eq_true] at hb
          exact absurd (Nat.eq_of_beq_eq_true hb.2) (hno e he hb.1)
        · exact hj
    · rw [getD_listedK (hS3 j hj)]
      exact hS1 j hj
    · rcases Nat.lt_or_ge j ops.size with hjn | hjn
      · rw [getD_listedK hjn] at hun
        exact hS4 j hji hun hjS hej X'
      · rw [Array.getD_eq_getD_getElem?, Array.getElem?_eq_none (by rw [listedK_size]; exact hjn)] at hun
        cases hun
  rcases hc with hc | hc
  · simp only [calmK, Bool.and_eq_true] at hc
    obtain ⟨hc1, hc2⟩ := hc
    refine hmain (waitsOn ops k) (fun j hj => ?_) (fun j hj oj hoj => ?_) (fun j hj => ?_) (fun j hji hkj hjS hej => ?_)
    · have := (List.all_eq_true.1 hc1) j hj
      simp only [Bool.and_eq_true] at this
      simpa using this.1
    · have := (List.all_eq_true.1 hc1) j hj
      simp only [Bool.and_eq_true, hoj] at this
      obtain ⟨e, he, hb⟩ := anyA this.2
      simp only [Bool.and_eq_true, Bool.or_eq_true] at hb
      exact ⟨e, he, hb.1, hb.2.imp Nat.eq_of_beq_eq_true has_mem⟩
    · have := (List.all_eq_true.1 hc1) j hj
      simp only [Bool.and_eq_true] at this
      rcases Nat.lt_or_ge j ops.size with h' | h'
      · exact h'
      · rw [Array.getElem?_eq_none h'] at this
        exact absurd this.2 (by simp)
    · have := (List.all_eq_true.1 hc2) j (has_mem hej)
      simp only [Bool.or_eq_true] at this
      rcases this with (h' | h') | h'
      · exact absurd (Nat.eq_of_beq_eq_true h') hji
      · rw [hkj] at h'; cases h'
      · exact absurd (has_mem h') hjS
  · exact hmain [] (fun _ h => nomatch h) (fun _ h => nomatch h) (fun _ h => nomatch h) (fun _ _ _ _ _ => hc)
/-- What is known of F alone tells its value. -/
theorem AWk.det {E : List Nat × List Nat} {F X : List Assn} {dn : List Nat} {k : Nat} {o : Oper} {v : Value} (ho : ops[k]? = some o) (hk : (firstK ops dn k && within ops o) = true) (hsel : noSelect ops) (hd : dlt o.dst C.n = true) (hnd : isDefer o = false)
    (hy : wantedE ops env o = true ∧ (has E.1 k = false ∧ has E.2 k = false) ∧ Det C o env v F ∨ wantedE ops env o = false ∧ v = undef) (h : AWk C ops Q E F (k :: dn) (env.putO o.dst v) X) : AWk C ops Q E F dn env X :=
  AWk.detG (G := fun _ => True) ho hk hsel hd hnd (fun _ _ _ _ => trivial) (.inr fun _ => trivial) trivial (hy.imp (fun ⟨h1, h3, h2⟩ => ⟨h1, h3, fun X _ => h2 X⟩) id) h
/-- What is known now tells its value: nothing that may come before it changes that. -/
theorem AWk.calm {E : List Nat × List Nat} {F X : List Assn} {dn : List Nat} {k : Nat} {o : Oper} {v : Value} (ho : ops[k]? = some o) (hk : (firstK ops dn k && within ops o) = true) (hsel : noSelect ops) (hd : dlt o.dst C.n = true) (hnd : isDefer o = false) (hE : has E.1 k = false ∧ has E.2 k = false)
    (hc : calmK ops E dn k = true) (hw : wantedE ops env o = true) (hy : ∀ Y, Sub X Y → Cal C o env v (F ++ Y)) (h : AWk C ops Q E F (k :: dn) (env.putO o.dst v) X) : AWk C ops Q E F dn env X :=
  AWk.detG (G := fun Y => Sub X Y) ho hk hsel hd hnd (fun _ _ h1 h2 => h2.trans h1) (.inl hc) (Sub.refl _) (.inl ⟨hw, hE, hy⟩) h
/-- Only operation k may come up now. -/
def onlyK (ops : Array Oper) (dn : List Nat) (k : Nat) : Bool := !has dn k && (Nat.blt dn.length ops.size && (List.range ops.size).all fun j =>
  Nat.beq j k || has dn j || (match ops[j]? with
    | some oj => oj.after.any (fun e => Region.binds .any e && (Nat.blt e.on ops.size && !has dn e.on))
    | none => true))
theorem onlyK_spec {dn : List Nat} {k : Nat} (h : onlyK ops dn k = true) : ∀ i ∈ Region.ready .any ops (listedK ops.size dn), i = k := by
  intro i hi
  simp only [onlyK, Bool.and_eq_true] at h
  obtain ⟨h0, o, ho, hall⟩ := mem_ready.1 hi
  have hin : i < ops.size := (Array.getElem?_eq_some_iff.1 ho).1
  have h1 := (List.all_eq_true.1 h.2.2) i (List.mem_range.2 hin)
  rw [getD_listedK hin] at h0
  simp only [h0, Bool.or_false, ho, Bool.or_eq_true] at h1
  rcases h1 with h1 | h1
  · exact Nat.eq_of_beq_eq_true h1
  · obtain ⟨e, he, hb⟩ := anyA h1
    simp only [Bool.and_eq_true] at hb
    have h2 := hall e he hb.1
    rw [getD_listedK (blt_lt hb.2.1)] at h2
    have h3 := hb.2.2
    rw [h2] at h3
    cases h3
theorem AWk.only {E : List Nat × List Nat} {F X : List Assn} {dn : List Nat} {k : Nat} {o : Oper} (ho : ops[k]? = some o) (hE : has E.1 k = true) (hk : onlyK ops dn k = true) (hr : (readyK dn o && within ops o) = true) (hd : dlt o.dst C.n = true) (hnd : isDefer o = false)
    (hw : wantedE ops env o = true)
    (h : OpV C o env (F ++ X) fun v L' => ∃ X', Sub (F ++ X') L' ∧ AWk C ops Q E F (k :: dn) (env.putO o.dst v) X') : AWk C ops Q E F dn env X := by
  have hk0 := hk
  simp only [onlyK, Bool.and_eq_true] at hk0
  simp only [Bool.and_eq_true] at hr
  have hln := blt_lt hk0.2.1
  have e : ops.size - dn.length = (ops.size - (dn.length + 1)) + 1 := by omega
  have hmem := ready_at ho hr.1 (by simpa using hk0.1) (within_lt hr.2)
  show AW C ops Q E F (ops.size - dn.length) (listedK ops.size dn) env X
  rw [e]
  refine ⟨(fun h0 => absurd (h0 ▸ hmem) (by simp)), fun i hi o' ho' => ?_⟩
  obtain rfl := onlyK_spec hk i hi
  obtain rfl : o' = o := by rw [ho] at ho'; injection ho' with e; exact e.symm
  refine ⟨hd, hnd, ?_⟩
  rw [if_pos hw, if_pos hE]
  exact h.mono fun v L' ⟨X', hs, hA⟩ => ⟨X', hs, by rw [listedK_set]; exact hA⟩
theorem AWk.grow {E : List Nat × List Nat} {F X : List Assn} {dn : List Nat} {k : Nat} {o : Oper} (ho : ops[k]? = some o) (hE1 : has E.1 k = false) (hE : has E.2 k = true) (hk : onlyK ops dn k = true) (hr : (readyK dn o && within ops o) = true) (hd : dlt o.dst C.n = true) (hnd : isDefer o = false)
    (hw : wantedE ops env o = true)
    (h : OpV C o env (F ++ X) fun v L' => ∃ X', Sub (F ++ X') L' ∧ Sub X X' ∧ AWk C ops Q E F (k :: dn) (env.putO o.dst v) X') : AWk C ops Q E F dn env X := by
  have hk0 := hk
  simp only [onlyK, Bool.and_eq_true] at hk0
  simp only [Bool.and_eq_true] at hr
  have hln := blt_lt hk0.2.1
  have e : ops.size - dn.length = (ops.size - (dn.length + 1)) + 1 := by omega
  have hmem := ready_at ho hr.1 (by simpa using hk0.1) (within_lt hr.2)
  show AW C ops Q E F (ops.size - dn.length) (listedK ops.size dn) env X
  rw [e]
  refine ⟨(fun h0 => absurd (h0 ▸ hmem) (by simp)), fun i hi o' ho' => ?_⟩
  obtain rfl := onlyK_spec hk i hi
  obtain rfl : o' = o := by rw [ho] at ho'; injection ho' with e; exact e.symm
  refine ⟨hd, hnd, ?_⟩
  rw [if_pos hw, if_neg (by simp [hE1]), if_pos hE]
  exact h.mono fun v L' ⟨X', hs, hXX, hA⟩ => ⟨X', hs, hXX, by rw [listedK_set]; exact hA⟩
theorem AW.perm {E : List Nat × List Nat} {F : List Assn} : ∀ (k : Nat) (listed : Array Bool) (env : Env) (X Y : List Assn), X.Perm Y → AW C ops Q E F k listed env X → (∀ env, ∀ X Y : List Assn, X.Perm Y → Q .normal env X → Q .normal env Y) → AW C ops Q E F k listed env Y
  | 0, listed, env, X, Y, p, h, hq => ⟨h.1, hq _ _ _ (p.append_left F) h.2⟩
  | k + 1, listed, env, X, Y, p, h, hq => by
    refine ⟨fun h0 => hq _ _ _ (p.append_left F) (h.1 h0), fun i hi o ho => ?_⟩
    obtain ⟨h1, h2, h3⟩ := h.2 i hi o ho
    refine ⟨h1, h2, ?_⟩
    by_cases hw : wantedE ops env o = true
    · rw [if_pos hw] at h3 ⊢
      by_cases he : has E.1 i = true
      · rw [if_pos he] at h3 ⊢
        exact h3.sub (Sub.of_perm (p.append_left F).symm)
      · rw [if_neg he] at h3 ⊢
        by_cases hn : has E.2 i = true
        · rw [if_pos hn] at h3 ⊢
          exact (h3.sub (Sub.of_perm (p.append_left F).symm)).mono fun v L' ⟨X', a1, a2, a3⟩ => ⟨X', a1, (Sub.of_perm p).trans a2, a3⟩
        · rw [if_neg hn] at h3 ⊢
          obtain ⟨v, a1, a2⟩ := h3
          exact ⟨v, a1.perm (p.append_left F), AW.perm k _ _ X Y p a2 hq⟩
    · rw [if_neg hw] at h3 ⊢
      exact AW.perm k _ _ X Y p h3 hq
theorem listedK_swap (n : Nat) (dn : List Nat) (a b : Nat) : listedK n (a :: b :: dn) = listedK n (b :: a :: dn) := by
  unfold listedK
  congr 1
  apply List.map_congr_left
  intro i _
  simp only [has]
  cases Nat.beq a i <;> cases Nat.beq b i <;> rfl
/-- Only k1 and k2 may come up now. -/
def only2K (ops : Array Oper) (dn : List Nat) (k1 k2 : Nat) : Bool := Nat.blt dn.length ops.size && (List.range ops.size).all fun j =>
  Nat.beq j k1 || Nat.beq j k2 || has dn j || (match ops[j]? with
    | some oj => oj.after.any (fun e => Region.binds .any e && (Nat.blt e.on ops.size && !has dn e.on))
    | none => true)
theorem only2K_spec {dn : List Nat} {k1 k2 : Nat} (h : only2K ops dn k1 k2 = true) : ∀ i ∈ Region.ready .any ops (listedK ops.size dn), i = k1 ∨ i = k2 := by
  intro i hi
  simp only [only2K, Bool.and_eq_true] at h
  obtain ⟨h0, o, ho, hall⟩ := mem_ready.1 hi
  have hin : i < ops.size := (Array.getElem?_eq_some_iff.1 ho).1
  have h1 := (List.all_eq_true.1 h.2) i (List.mem_range.2 hin)
  rw [getD_listedK hin] at h0
  simp only [h0, Bool.or_false, ho, Bool.or_eq_true] at h1
  rcases h1 with (h1 | h1) | h1
  · exact .inl (Nat.eq_of_beq_eq_true h1)
  · exact .inr (Nat.eq_of_beq_eq_true h1)
  · obtain ⟨e, he, hb⟩ := anyA h1
    simp only [Bool.and_eq_true] at hb
    have h2 := hall e he hb.1
    rw [getD_listedK (blt_lt hb.2.1)] at h2
    have h3 := hb.2.2
    rw [h2] at h3
    cases h3
/-- Two operations that only add to what is known, in whichever order. N v new: v is its value, new what it adds. -/
def News (C : Ctx) (o : Oper) (env : Env) (N : Value → List Assn → Prop) : Prop :=
  ∀ (L : List Assn) (K : Value → List Assn → Prop), (∀ v new, N v new → K v (new ++ L)) → OpV C o env L K
theorem AWk.two {E : List Nat × List Nat} {F X : List Assn} {dn : List Nat} {k1 k2 : Nat} {o1 o2 : Oper} {N1 N2 : Value → List Assn → Prop} (ho1 : ops[k1]? = some o1) (ho2 : ops[k2]? = some o2)
    (hq : ∀ env, ∀ X Y : List Assn, X.Perm Y → Q .normal env X → Q .normal env Y)
    (hk : only2K ops dn k1 k2 = true) (hk1 : onlyK ops (k1 :: dn) k2 = true) (hk2 : onlyK ops (k2 :: dn) k1 = true) (hr1 : (readyK (k2 :: dn) o1 && within ops o1) = true) (hr2 : (readyK (k1 :: dn) o2 && within ops o2) = true)
    (hr : (readyK dn o1 && (!has dn k1)) = true)
    (hd1 : dlt o1.dst C.n = true) (hd2 : dlt o2.dst C.n = true) (hnd1 : isDefer o1 = false) (hnd2 : isDefer o2 = false) (hw1 : ∀ env, wantedE ops env o1 = true) (hw2 : ∀ env, wantedE ops env o2 = true)
    (hne : ∀ d, o1.dst = some d → o2.dst ≠ some d) (hE1 : has E.1 k1 = false ∧ has E.2 k1 = true) (hE2 : has E.1 k2 = false ∧ has E.2 k2 = true)
    (hN1 : ∀ env, News C o1 env N1) (hN2 : ∀ env, News C o2 env N2)
    (h : ∀ v1 n1 v2 n2, N1 v1 n1 → N2 v2 n2 → AWk C ops Q E F (k2 :: k1 :: dn) ((env.putO o1.dst v1).putO o2.dst v2) (n2 ++ (n1 ++ X))) : AWk C ops Q E F dn env X := by
  have hk0 := hk
  simp only [only2K, Bool.and_eq_true] at hk0
  have hln := blt_lt hk0.1
  have e : ops.size - dn.length = (ops.size - (dn.length + 1)) + 1 := by omega
  simp only [Bool.and_eq_true] at hr hr1
  have hmem := ready_at ho1 hr.1 (by simpa using hr.2) (within_lt hr1.2)
  show AW C ops Q E F (ops.size - dn.length) (listedK ops.size dn) env X
  rw [e]
  have fr : ∀ (n : List Assn), (n ++ (F ++ X)).Perm (F ++ (n ++ X)) := fun n => List.perm_append_comm_assoc n F X
  have fr2 : ∀ (n m : List Assn), (n ++ (F ++ (m ++ X))).Perm (F ++ (n ++ (m ++ X))) := fun n m => List.perm_append_comm_assoc n F (m ++ X)
  refine ⟨(fun h0 => absurd (h0 ▸ hmem) (by simp)), fun i hi o' ho' => ?_⟩
  rcases only2K_spec hk i hi with rfl | rfl
  · obtain rfl : o' = o1 := by rw [ho1] at ho'; injection ho' with e; exact e.symm
    refine ⟨hd1, hnd1, ?_⟩
    rw [if_pos (hw1 _), if_neg (by simp [hE1.1]), if_pos hE1.2]
    refine hN1 env (F ++ X) _ fun v1 n1 hv1 => ⟨n1 ++ X, Sub.of_perm (fr n1), ⟨n1, List.perm_append_comm⟩, ?_⟩
    rw [listedK_set]
    have h2 : AWk C ops Q E F (i :: dn) (env.putO o'.dst v1) (n1 ++ X) := by
      refine AWk.grow ho2 hE2.1 hE2.2 hk1 hr2 hd2 hnd2 (hw2 _) (hN2 _ _ _ fun v2 n2 hv2 => ⟨n2 ++ (n1 ++ X), Sub.of_perm (fr2 n2 n1), ⟨n2, List.perm_append_comm⟩, h v1 n1 v2 n2 hv1 hv2⟩)
    exact h2
  · obtain rfl : o' = o2 := by rw [ho2] at ho'; injection ho' with e; exact e.symm
    refine ⟨hd2, hnd2, ?_⟩
    rw [if_pos (hw2 _), if_neg (by simp [hE2.1]), if_pos hE2.2]
    refine hN2 env (F ++ X) _ fun v2 n2 hv2 => ⟨n2 ++ X, Sub.of_perm (fr n2), ⟨n2, List.perm_append_comm⟩, ?_⟩
    rw [listedK_set]
    have h2 : AWk C ops Q E F (i :: dn) (env.putO o'.dst v2) (n2 ++ X) := by
      refine AWk.grow ho1 hE1.1 hE1.2 hk2 (by simp only [Bool.and_eq_true]; exact hr1) hd1 hnd1 (hw1 _) (hN1 _ _ _ fun v1 n1 hv1 => ⟨n1 ++ (n2 ++ X), Sub.of_perm (fr2 n1 n2), ⟨n1, List.perm_append_comm⟩, ?_⟩)
      have h3 := h v1 n1 v2 n2 hv1 hv2
      have h4 : AW C ops Q E F (ops.size - (dn.length + 1 + 1)) (listedK ops.size (i :: k1 :: dn)) ((env.putO o1.dst v1).putO o'.dst v2) (n2 ++ (n1 ++ X)) := h3
      show AW C ops Q E F (ops.size - (dn.length + 1 + 1)) (listedK ops.size (k1 :: i :: dn)) ((env.putO o'.dst v2).putO o1.dst v1) (n1 ++ (n2 ++ X))
      rw [listedK_swap, ← putO_comm env v1 v2 hne]
      refine AW.perm _ _ _ _ _ ?_ h4 hq
      exact List.perm_append_comm_assoc n2 n1 X
    exact h2
def allK (ops : Array Oper) (dn : List Nat) : Bool := Nat.beq ops.size dn.length && (List.range ops.size).all fun j => has dn j
theorem AWk.done {E : List Nat × List Nat} {F X : List Assn} {dn : List Nat} (hk : allK ops dn = true) (h : Q .normal env (F ++ X)) : AWk C ops Q E F dn env X := by
  simp only [allK, Bool.and_eq_true] at hk
  show AW C ops Q E F (ops.size - dn.length) (listedK ops.size dn) env X
  rw [← Nat.eq_of_beq_eq_true hk.1, Nat.sub_self]
  refine ⟨?_, h⟩
  cases hr : Region.ready .any ops (listedK ops.size dn) with
  | nil => rfl
  | cons i l =>
    have hi : i ∈ Region.ready .any ops (listedK ops.size dn) := by rw [hr]; exact List.mem_cons_self ..
    obtain ⟨h0, o, ho, _⟩ := mem_ready.1 hi
    have hin : i < ops.size := (Array.getElem?_eq_some_iff.1 ho).1
    rw [getD_listedK hin, (List.all_eq_true.1 hk.2) i (List.mem_range.2 hin)] at h0
    cases h0
def noSelectB (ops : Array Oper) : Bool := ops.all fun o => !isSelect o
theorem noSelectB_spec (h : noSelectB ops = true) : noSelect ops := fun j o ho => by
  have hm : o ∈ ops := Array.mem_of_getElem? ho
  have := (Array.all_eq_true_iff_forall_mem.1 h) o hm
  simpa using this
theorem St.same {w0 w w' : World} {M : List Nat} (h : St w0 M L w) (h1 : w'.os = w.os) (h2 : w'.tape = w.tape) (h3 : w'.output = w.output) (h4 : w'.heap = w.heap) : St w0 M L w' :=
  ⟨h1.trans h.os, h2.trans h.tape, h3.trans h.output, h4 ▸ h.size, h4 ▸ h.block,
    ⟨fun A hA => A.stable w w' (fun b _ => by rw [h4]) (h.sat.ok A hA), h4 ▸ h.sat.lt, h.sat.nodup⟩, h.own⟩
theorem TC.draw {id : Nat} {E : List Nat × List Nat} (F X : List Assn) (hm : C.P.follows .mixedOrders = true) (hL : Sub (F ++ X) L) (h : AWk C ops Q E F [] env X) : TC C (.region id ops true) Q env L := fun a w ha hw =>
  wpIn_region_any hm (by
    have h1 : AW C ops Q E F (ops.size - 0) (listedK ops.size []) env X := h
    rw [Nat.sub_zero, listedK_zero] at h1
    exact AW.sound _ _ _ _ h1 _ _ ha ((hw.sub hL).same rfl rfl rfl rfl))
end Go.E
