/- Plain words: the document's state, a list of blocks; what a truth's replies are held again -/
import Derived.Test.YtgdjcmehlhebdaaGreatDoorYSb
set_option maxHeartbeats 25600000
set_option linter.all false
namespace Go.E
def M9 (x : Nat × Sealed) : List Value := .int .u64 (x.1 : Int) :: o4 x.2
theorem F1 (x : Nat × Sealed) : (M9 x).length = 50 := by rw [M9, List.length_cons, k9]
theorem I1 (M : Sm) : (M.flatMap M9).length = M.length * 50 := oM F1 M
def H0 : Nat × Sealed := (0, A4)
theorem bO {M : Sm} {k : Nat} (h : k < M.length) : ∀ j v, (M9 (M.getD k H0))[j]? = some v → (M.flatMap M9)[k * 50 + j]? = some v :=
 aW F1 M k _ (getD_some H0 h)
theorem gV (x : Nat × Sealed) : ∀ u ∈ M9 x, u.oneCell' = true := by
 intro u hu
 rcases List.mem_cons.1 hu with rfl | hu
 ·rfl
 ·exact List.all_eq_true.1 (aF x.2) u hu
theorem lG (x : Nat × Sealed) : (vl (.agg (M9 x).toArray)).length = 50 := by rw [o6, F1]
theorem yS (x : Nat × Sealed) : ∀ j v, (o4 x.2)[j]? = some v → (M9 x)[1 + j]? = some v := fun j v h => by
 rw [M9, Nat.add_comm, List.getElem?_cons_succ]; exact h
theorem oD (i : Nat) (s : Sealed) : [Value.int .u64 (i : Int), .agg (o4 s).toArray].flatMap vl = M9 (i, s) := by
 show [Value.int .u64 (i : Int)] ++ (o4 s ++ []) = _
 rw [List.append_nil]; rfl
theorem zg5 (t : Bool) (s0 s : Sealed) : (u9 ⟨t, s0⟩).take 1 ++ o4 s ++ (u9 ⟨t, s0⟩).drop (1 + (o4 s).length) = u9 ⟨t, s⟩ := by
 rw [List.drop_of_length_le (by rw [k9, m0]; decide), List.append_nil]; rfl
theorem iO {M : Sm} {k : Nat} (h : k < M.length) : M.take (k + 1) = M.take k ++ [M.getD k H0] := by
 rw [List.take_succ_eq_append_getElem h]; simp [List.getD, h]
theorem qM (M : Sm) (x : Nat × Sealed) : o9 (M ++ [x]) = o9 M ++ [x.1] := by simp [o9]
def JF (x : Item) : Option Sealed := if x.there = true then some x.s else none
structure PutM (i : Nat) (x : Item) (M : Sm) (k : Nat) (done : Bool) (out : Sm) : Prop where
 oth : ∀ j, j ≠ i → look j out = look j (M.take k)
 own : look i out = if done = true then JF x else none
 mono : x.there = false → done = true
 nd : (o9 out).Nodup
 len : out.length ≤ k + 1
 len0 : done = false → out.length ≤ k
 low : ∀ y ∈ out, y.1 < 18446744073709551616
theorem PutM.zero (i : Nat) (x : Item) (M : Sm) : PutM i x M 0 (!x.there) [] :=
 ⟨fun j _ => rfl, by unfold JF; rw [U8]; cases x.there <;> rfl, fun h => by rw [h]; rfl, List.nodup_nil, Nat.zero_le _, fun _ => Nat.zero_le _, fun y hy => by cases hy⟩
theorem PutM.ins {i : Nat} {x : Item} {M : Sm} {k : Nat} {out : Sm} (p : PutM i x M k false out) (hi : i < 18446744073709551616) : PutM i x M k true (out ++ [(i, x.s)]) := by
 have ht : x.there = true := by
  cases h : x.there
  ·exact absurd (p.mono h) (by decide)
  ·rfl
 have hn : look i out = none := p.own
 refine ⟨fun j hj => ?_, ?_, fun _ => rfl, ?_, ?_, (fun h => by cases h), fun y hy => ?_⟩
 ·rw [Q5, A6, if_neg hj, U8, p.oth j hj]; simp
 ·rw [Q5, hn, A6, if_pos rfl, if_pos rfl, JF, if_pos ht]; rfl
 ·rw [qM]
  exact List.nodup_append.2 ⟨p.nd, by simp, fun a ha b hb e => by
   subst e
   rw [List.mem_singleton.1 hb] at ha
   exact P3.1 hn ha⟩
 ·have := p.len0 rfl; rw [List.length_append, List.length_singleton]; omega
 ·rcases List.mem_append.1 hy with h1 | h1
  ·exact p.low y h1
  ·rw [List.mem_singleton.1 h1]; exact hi
theorem PutM.keep {i : Nat} {x : Item} {M : Sm} {k : Nat} {d : Bool} {out : Sm} (p : PutM i x M k d out) (hM : (o9 M).Nodup) (hk : k < M.length) (hne : (M.getD k H0).1 ≠ i) (hl : (M.getD k H0).1 < 18446744073709551616) :
  PutM i x M (k + 1) d (out ++ [M.getD k H0]) := by
 have hx : look (M.getD k H0).1 out = none := by
  rw [p.oth _ hne]
  refine P3.2 fun hm => ?_
  have h2 : (o9 (M.take (k + 1))).Nodup := by
   rw [o9] at hM ⊢
   exact ((List.take_sublist _ _).map _).nodup hM
  rw [iO hk, qM] at h2
  exact (List.nodup_append.1 h2).2.2 _ hm _ (List.mem_singleton.2 rfl) rfl
 refine ⟨fun j hj => ?_, ?_, p.mono, ?_, ?_, fun h => ?_, fun y hy => ?_⟩
 ·rw [iO hk, Q5, Q5, p.oth j hj]
 ·rw [Q5, A6, if_neg (fun e => hne e.symm), U8, Option.or_none]; exact p.own
 ·rw [qM]
  exact List.nodup_append.2 ⟨p.nd, by simp, fun a ha b hb e => by
   subst e
   rw [List.mem_singleton.1 hb] at ha
   exact P3.1 hx ha⟩
 ·have := p.len; rw [List.length_append, List.length_singleton]; omega
 ·have := p.len0 h; rw [List.length_append, List.length_singleton]; omega
 ·rcases List.mem_append.1 hy with h1 | h1
  ·exact p.low y h1
  ·rw [List.mem_singleton.1 h1]; exact hl
theorem PutM.drop {i : Nat} {x : Item} {M : Sm} {k : Nat} {d : Bool} {out : Sm} (p : PutM i x M k d out) (hk : k < M.length) (he : (M.getD k H0).1 = i) : PutM i x M (k + 1) d out :=
 ⟨fun j hj => by rw [iO hk, Q5, A6, if_neg (by rw [he]; exact hj), U8, Option.or_none, p.oth j hj], p.own, p.mono, p.nd, Nat.le_succ_of_le p.len, fun h => Nat.le_succ_of_le (p.len0 h), p.low⟩
structure PutD (i : Nat) (x : Item) (M out : Sm) : Prop where
 look : ∀ j, look j out = if j = i then JF x else look j M
 nd : (o9 out).Nodup
 len : out.length ≤ M.length + 1
 low : ∀ y ∈ out, y.1 < 18446744073709551616
theorem PutM.end {i : Nat} {x : Item} {M : Sm} {k : Nat} {out : Sm} (p : PutM i x M k true out) (hk : k = M.length) : PutD i x M out := by
 subst hk
 refine ⟨fun j => ?_, p.nd, p.len, p.low⟩
 by_cases h : j = i
 ·rw [if_pos h, h]; exact p.own
 ·rw [if_neg h, p.oth j h, List.take_length]
structure DocOk (Y M : Sm) (c : Nat) : Prop where
 look : ∀ p, look p M = look p Y
 nd : (o9 M).Nodup
 low : ∀ y ∈ M, y.1 < 18446744073709551616
 len : M.length ≤ c
theorem DocOk.nil : DocOk [] [] 0 := ⟨fun _ => rfl, List.nodup_nil, (fun y hy => by cases hy), Nat.le_refl _⟩
theorem DocOk.mono {Y M : Sm} {c d : Nat} (h : DocOk Y M c) (hd : c ≤ d) : DocOk Y M d := ⟨h.look, h.nd, h.low, Nat.le_trans h.len hd⟩
theorem DocOk.step {Y M out : Sm} {c : Nat} (h : DocOk Y M c) (hY : (o9 Y).Nodup) {o : Order} {k : Nat} {x : Item} (hx : JF x = if o.kind = 1 then some (o.ss.getD k A4) else none) (p : PutD (o.xs.getD k 0) x M out) : DocOk (iM o Y k) out (c + 1) :=
 ⟨fun j => by rw [p.look, qN hY, h.look, hx], p.nd, p.low, Nat.le_trans p.len (Nat.add_le_add_right h.len 1)⟩
theorem DocOk.cut {Y M : Sm} {c : Nat} (h : DocOk Y M c) (b : Nat) : DocOk (dH b Y) (dH b M) c :=
 ⟨fun p => by rw [eC, eC, h.look], (List.filter_sublist.map _).nodup h.nd, fun y hy => h.low y (List.mem_filter.1 hy).1, Nat.le_trans (List.length_filter_le _ _) h.len⟩
theorem DocOk.length {Y M : Sm} {c : Nat} (h : DocOk Y M c) (hY : (o9 Y).Nodup) : M.length = Y.length := by
 have p : (o9 M).Perm (o9 Y) := (List.perm_ext_iff_of_nodup h.nd hY).2 fun x => by
  have e := h.look x
  exact ⟨fun hm => Decidable.byContradiction fun hn => by rw [P3.2 hn] at e; exact P3.1 e hm, fun hm => Decidable.byContradiction fun hn => by rw [P3.2 hn] at e; exact P3.1 e.symm hm⟩
 have := p.length_eq
 simpa [o9] using this
theorem qK {Y M : Sm} (h : ∀ p, look p M = look p Y) (i : Nat) : Z0 M i = Z0 Y i := by rw [Z0, Z0, h]
theorem zgY {Y M : Sm} (h : ∀ p, look p M = look p Y) : gS M = gS Y := funext fun i => by rw [gS, gS, qK h]
theorem nL {o : Order} {Y : Sm} (h : (o9 Y).Nodup) : ∀ k, (o9 (kV o Y k)).Nodup
 | 0 => h
 | k + 1 => tF (nL h k)
theorem zg3 {S : Sm} {i : Nat} {s : Sealed} (h : look i S = some s) : Z0 S i = ⟨true, s⟩ := by rw [Z0, h]
theorem GU {i : Nat} : ∀ {M : Sm} {k : Nat}, k < M.length → (∀ j, j < k → (M.getD j H0).1 ≠ i) → (M.getD k H0).1 = i → look i M = some (M.getD k H0).2
 | [], k, h, _, _ => absurd h (Nat.not_lt_zero _)
 | x :: M, 0, _, _, he => by
  have he : x.1 = i := he
  rw [A6, if_pos he.symm]; rfl
 | x :: M, k + 1, h, hb, he => by
  have h0 : x.1 ≠ i := hb 0 (Nat.succ_pos _)
  rw [A6, if_neg (fun e => h0 e.symm)]
  exact GU (M := M) (k := k) (Nat.lt_of_succ_lt_succ h) (fun j hj => hb (j + 1) (Nat.succ_lt_succ hj)) he
theorem zg9 {i : Nat} {M : Sm} (hb : ∀ j, j < M.length → (M.getD j H0).1 ≠ i) : look i M = none := P3.2 fun hm => by
 obtain ⟨x, hx, rfl⟩ := List.mem_map.1 hm
 obtain ⟨j, hj, rfl⟩ := List.mem_iff_getElem.1 hx
 have := hb j hj
 simp [List.getD, hj] at this
theorem tQ {M : Sm} (h : ∀ y ∈ M, y.1 < 18446744073709551616) {k : Nat} (hk : k < M.length) : (M.getD k H0).1 < 18446744073709551616 := h _ (E6 H0 hk)
theorem DF {b : Nat} {M : Sm} {k : Nat} (h : k < M.length) : dH b (M.take (k + 1)) = if (M.getD k H0).1 < b then dH b (M.take k) ++ [M.getD k H0] else dH b (M.take k) := by
 rw [iO h]
 unfold dH
 rw [List.filter_append]
 generalize M.getD k H0 = y
 split
 ·rename_i g; simp [g]
 ·rename_i g; simp; omega
theorem zij (b : Nat) (M : Sm) {k : Nat} (h : k ≤ M.length) : (dH b (M.take k)).length ≤ k := by
 refine Nat.le_trans (List.length_filter_le ..) ?_
 rw [List.length_take]; omega
def T7 (M : Sm) : Ls := M.map fun x => (x.1, K3 (R6 x.1 x.2))
theorem bU (M : Sm) : (T7 M).length = M.length := by rw [T7, List.length_map]
theorem cS {M : Sm} (h : ∀ y ∈ M, y.1 < 18446744073709551616) : ∀ x ∈ T7 M, x.1 < 18446744073709551616 := fun x hx => by
 obtain ⟨y, hy, rfl⟩ := List.mem_map.1 hx
 exact h y hy
theorem DT (j : Nat) : ∀ M : Sm, look j (T7 M) = (look j M).map fun s => K3 (R6 j s)
 | [] => rfl
 | x :: M => by
  have ih := DT j M
  unfold T7 at ih ⊢
  rw [List.map_cons, A6, A6, ih]
  by_cases h : j = x.1
  ·rw [if_pos h, if_pos h, h]; rfl
  ·rw [if_neg h, if_neg h]
theorem zjd {E : Nat → i6} (hE0 : E 0 = K3 [0]) (M : Sm) : fL E (T7 M) = gS M := funext fun j => by
 unfold fL gS Z0
 rw [DT]
 cases look j M with
 | none => exact hE0
 | some s => rfl
theorem zha {M : Sm} {k : Nat} (h : k < M.length) : T7 (M.take (k + 1)) = T7 (M.take k) ++ [((M.getD k H0).1, K3 (R6 (M.getD k H0).1 (M.getD k H0).2))] := by
 rw [iO h, T7, T7, List.map_append]; rfl
def fG (kind : Int) (first : Nat) (many : Int) (xs : List Nat) : List Nat := if kind = 1 then xs else if kind = 2 ∧ 1 ≤ many ∧ many ≤ 256 ∧ first + many.toNat ≤ 4294967296 then (List.range many.toNat).map (first + ·) else []
theorem zei {ss : List Sealed} {k : Nat} (h : k < ss.length) : (ss.take (k + 1)).flatMap o4 = (ss.take k).flatMap o4 ++ o4 (ss.getD k A4) := by
 rw [List.take_succ_eq_append_getElem h, List.flatMap_append, show ss.getD k A4 = ss[k] by simp [List.getD, h]]; simp
structure TckA where
 u : Nat
 e : Nat
 x : OrdA
 tag : KT
def W8 (t : TckA) : List Value := .int .u64 (t.u : Int) :: .int .u64 (t.e : Int) :: (M7 t.x ++ e9 t.tag.1)
theorem x6 (t : TckA) : (W8 t).length = 22 := by simp [W8, R7, o3, t.tag.2]
theorem xU (t : TckA) : (W8 t).all (·.oneCell') = true := by
 refine List.all_eq_true.2 fun u hu => ?_
 rcases List.mem_cons.1 hu with rfl | hu
 ·rfl
 rcases List.mem_cons.1 hu with rfl | hu
 ·rfl
 rcases List.mem_append.1 hu with hu | hu
 ·exact List.all_eq_true.1 (kO t.x) u hu
 ·exact r9 t.tag.1 u hu
theorem zhR (t : TckA) : ∀ j v, (M7 t.x)[j]? = some v → (W8 t)[2 + j]? = some v := fun j v h => by
 rw [W8, Nat.add_comm 2 j, List.getElem?_cons_succ, List.getElem?_cons_succ]
 rw [List.getElem?_append_left (List.getElem?_eq_some_iff.1 h).1]; exact h
theorem zhS (t : TckA) : ∀ j v, (e9 t.tag.1)[j]? = some v → (W8 t)[6 + j]? = some v := fun j v h => by
 rw [W8, show 6 + j = (4 + j) + 1 + 1 by omega, List.getElem?_cons_succ, List.getElem?_cons_succ]
 exact cC (R7 t.x) j v h
def TckA.at (t : TckA) (B : y8) (d : Nat) : TckA := { t with x := { t.x with B := B, d := d } }
theorem FB (u e : Nat) (A : y8) (c : Nat) (B : y8) (d : Nat) (o : Order) (tag : KT) : [Value.int .u64 (u : Int), .int .u64 (e : Int), .agg (G3 A c B d o).toArray, .agg (e9 tag.1).toArray].flatMap vl = W8 ⟨u, e, ⟨A, c, B, d, o⟩, tag⟩ := by
 show [Value.int .u64 (u : Int)] ++ ([Value.int .u64 (e : Int)] ++ (G3 A c B d o ++ (e9 tag.1 ++ []))) = _
 rw [List.append_nil]; rfl
structure ReqB where
 seq : Nat
 kind : Int
 A : y8
 c : Nat
 xs : List Nat
 first : Nat
 many : Int
 t : TckA
 ep : Nat
def bL (q : ReqB) : List Value := .int .u64 (q.seq : Int) :: .int .i64 q.kind :: .slice q.A q.xs.length q.c :: .int .u64 (q.first : Int) :: .int .i64 q.many :: (W8 q.t ++ [.int .u64 (q.ep : Int)])
theorem T8 (q : ReqB) : (bL q).length = 28 := by simp [bL, x6]
theorem zhs (q : ReqB) : (bL q).all (·.oneCell') = true := by
 have := xU q.t
 simp only [bL, List.all_cons, List.all_append, List.all_nil, this]; rfl
theorem zht (q : ReqB) : ∀ j v, (W8 q.t)[j]? = some v → (bL q)[5 + j]? = some v := fun j v h => by
 rw [bL, show 5 + j = j + 1 + 1 + 1 + 1 + 1 by omega]
 simp only [List.getElem?_cons_succ]
 rw [List.getElem?_append_left (List.getElem?_eq_some_iff.1 h).1]; exact h
theorem ziO (q : ReqB) : (bL q)[27]? = some (.int .u64 (q.ep : Int)) := by
 rw [bL]
 simp only [List.getElem?_cons_succ]
 exact cC (x6 q.t) 0 _ rfl
def ReqB.toA (q : ReqB) : ReqA := ⟨bL q, q.kind, q.A, q.c, q.xs, q.first, q.many, T8 q, rfl, rfl, rfl, rfl⟩
def ReqB.at (q : ReqB) (B : y8) (d : Nat) : ReqB := { q with t := q.t.at B d }
structure RepB where
 seq : Nat
 kind : Int
 err : Int
 I : y8
 i : Nat
 its : List Item
 there : Bool
 t : TckA
 P : y8
 p : Nat
 pa : List i6
 Q : y8
 q : Nat
 pb : List i6
def Y5 (r : RepB) : List Value := .int .u64 (r.seq : Int) :: .int .i64 r.kind :: .int .i64 r.err :: .slice r.I r.its.length r.i :: .bool r.there :: (W8 r.t ++ [.slice r.P r.pa.length r.p, .slice r.Q r.pb.length r.q])
theorem G8 (r : RepB) : (Y5 r).length = 29 := by simp [Y5, x6]
theorem kS (r : RepB) : (Y5 r).all (·.oneCell') = true := by
 have := xU r.t
 simp only [Y5, List.all_cons, List.all_append, List.all_nil, this]; rfl
theorem zhq (r : RepB) : ∀ j v, (W8 r.t)[j]? = some v → (Y5 r)[5 + j]? = some v := fun j v h => by
 rw [Y5, show 5 + j = j + 1 + 1 + 1 + 1 + 1 by omega]
 simp only [List.getElem?_cons_succ]
 rw [List.getElem?_append_left (List.getElem?_eq_some_iff.1 h).1]; exact h
theorem nI (r : RepB) : (Y5 r)[27]? = some (.slice r.P r.pa.length r.p) := by
 rw [Y5]
 simp only [List.getElem?_cons_succ]
 exact cC (x6 r.t) 0 _ rfl
theorem nJ (r : RepB) : (Y5 r)[28]? = some (.slice r.Q r.pb.length r.q) := by
 rw [Y5]
 simp only [List.getElem?_cons_succ]
 exact cC (x6 r.t) 1 _ rfl
def RepB.toA (r : RepB) : RepA := ⟨Y5 r, r.err, r.I, r.i, r.its, r.P, r.p, r.pa, r.Q, r.q, r.pb, G8 r, rfl, rfl, nI r, nJ r⟩
def RepB.at (r : RepB) (I : y8) (i : Nat) (B : y8) (d : Nat) : RepB := { r with I := I, i := i, t := r.t.at B d }
theorem DK (pl : Nat → Option (Nat × Nat)) : ∀ (a b : List (Nat × Value)) (c d : Array Value), Instr.fill pl c a = some d → Instr.fill pl c (a ++ b) = Instr.fill pl d b
 | [], b, c, d, h => by simp only [Instr.fill, Option.some.injEq] at h; rw [h]; rfl
 | (i, v) :: a, b, c, d, h => by
  rw [List.cons_append]
  simp only [Instr.fill] at h ⊢
  cases hp : pl i with
  | none => rw [hp] at h; cases h
  | some q =>
   simp only [hp] at h ⊢
   split
   ·rename_i hc; rw [if_pos hc] at h; cases h
   ·rename_i hc; rw [if_neg hc] at h
    exact DK pl a b _ d h
theorem yL {C : Ctx} {env : Env} {L : List Assn} {T ty : TypeId} {dst : Option Tmp} {po : String} {af : Array Edge} {gj : Option (Nat × Bool)} {fs : Array Field} {pls : Array (Nat × Nat)} {parts : List (Nat × Operand)} {vs us zs : List Value} (s g r : List Value) (k : Nat) (ht : C.P.underlying T = some (.struct fs)) (hpl : ∀ w, (fs.mapM fun f => do pure (f.offset, ← sizeOf f.type) : Sem (Array (Nat × Nat))).run C.P w = .ok pls w) (hz : E3 C.P T = some zs)
  (hp : parts.map (fun q => (q.1, env.ev q.2)) = ((vs.zipIdx 0).map fun q => (q.2, q.1)) ++ (us.zipIdx k).map fun q => (q.2, q.1)) (hzs : zs = s ++ (g ++ r)) (hs : s.length = (vs.flatMap vl).length) (hr : r.length = (us.flatMap vl).length) (hv : Places (fun i => pls[i]?) vs 0 0) (hu : Places (fun i => pls[i]?) us k ((vs.flatMap vl) ++ g).length) :
  Qt C L ⟨dst, .build T parts.toArray, ty, po, af, gj⟩ env (.agg (vs.flatMap vl ++ g ++ us.flatMap vl).toArray) := fun w _ => by
 subst hzs
 obtain ⟨z, N3, aH⟩ := nQ hz
 have hl1 : (parts.toArray.map fun (i, x) => (i, env.ev x)).toList = ((vs.zipIdx 0).map fun q => (q.2, q.1)) ++ (us.zipIdx k).map fun q => (q.2, q.1) := by rw [← hp]; simp
 have h1 := oJ (fun i => pls[i]?) vs 0 [] s (g ++ r) hv hs
 have h2 := oJ (fun i => pls[i]?) us k (vs.flatMap vl ++ g) r [] hu hr
 simp only [List.nil_append, List.append_nil] at h1 h2
 have hf := DK _ _ ((us.zipIdx k).map fun q => (q.2, q.1)) _ _ h1
 rw [show vs.flatMap vl ++ (g ++ r) = vs.flatMap vl ++ g ++ r from (List.append_assoc ..).symm, h2] at hf
 simp only [List.append_assoc] at hf ⊢
 simp only [execOp, Instr.build, Sem.run_bind, N3, run_underlying ht, Result.andThen_ok, hpl, Sem.run_pure, aH, hl1, hf]
theorem zfp {f : Nat × Nat → i6} {ds : Sd} {k : Nat} (h : k < ds.length) : m9 ((ds.take (k + 1)).map f) = m9 ((ds.take k).map f) ++ L8 (f (ds.getD k (0, 0))) := by
 rw [List.take_succ_eq_append_getElem h, List.map_append, M3, show ds.getD k (0, 0) = ds[k] by simp [List.getD, h]]; simp [m9]
theorem EN (q : ReqB) (t : TckA) : [Value.int .u64 (q.seq : Int), .int .i64 q.kind, .slice q.A q.xs.length q.c, .int .u64 (q.first : Int), .int .i64 q.many, .agg (W8 t).toArray, .int .u64 (q.ep : Int)].flatMap vl = bL { q with t := t } := by
 show [Value.int .u64 (q.seq : Int)] ++ ([Value.int .i64 q.kind] ++ ([Value.slice q.A q.xs.length q.c] ++ ([Value.int .u64 (q.first : Int)] ++ ([Value.int .i64 q.many] ++ (W8 t ++ ([Value.int .u64 (q.ep : Int)] ++ [])))))) = _
 rfl
theorem EM (r : RepB) (t : TckA) : [Value.int .u64 (r.seq : Int), .int .i64 r.kind, .int .i64 r.err].flatMap vl ++ [Value.slice none 0 0] ++ [Value.bool r.there, .agg (W8 t).toArray, .slice r.P r.pa.length r.p, .slice r.Q r.pb.length r.q].flatMap vl = Y5 { r with t := t, I := none, i := 0, its := [] } := by
 show ([Value.int .u64 (r.seq : Int)] ++ ([Value.int .i64 r.kind] ++ ([Value.int .i64 r.err] ++ []))) ++ [Value.slice none 0 0] ++ ([Value.bool r.there] ++ (W8 t ++ ([Value.slice r.P r.pa.length r.p] ++ ([Value.slice r.Q r.pb.length r.q] ++ [])))) = _
 rfl
end Go.E
namespace Go.Proofs.YtgdjcmehlhebdaaGreatDoor
open _root_.Go.Proofs.Tryz
open Go.E
set_option maxRecDepth 4000
theorem J37 : p8 prog 37 := ⟨_, func37, by kernel_rfl, rfl⟩
theorem elem91 : S3 prog 91 49 56 := S4 (by kernel_rfl)
theorem buildO (k : Int) (A : y8) (n c : Nat) (b : Nat) (w : World) : (Instr.build 96 #[(0, .int .i64 k), (1, .slice A n c), (3, .int .u64 (b : Int))]).run prog w = .ok (.agg #[.int .i64 k, .slice A n c, .slice none 0 0, .int .u64 (b : Int)]) w := by kernel_rfl
theorem zg7 (i : Nat) (hi : i < 18446744073709551616) (x : Sealed) (w0) (hT : Tabs 2 0 w0 []) : cR 76 #[uI i, .agg (o4 x).toArray] w0 (hv (K3 (R6 i x))) := by
 refine cQ (co 9 [.cell 4 49] func76 ?_)
 refine gw ?_
 intro b3
 refine gw ?_
 intro b4
 refine gw ?_
 refine e6 (a8 rfl (i4 (vs := o4 x) N3 rT (by rw [k9]; exact ce91))) (z9 en (fun w hw => oX i hi x w) ?_)
 rintro v L' ⟨O, d, rfl, rfl⟩
 refine u7 en (fun w hw => cQ (Y2 O d (R6 i x) w (Rd.own (Rd.at 0 rfl) w hw) (by rw [bR]; decide) (hT.at hw))) ?_
 refine j9 rfl (HY _ rfl (gw ?_))
 exact a9 (finQ.ret (j7 rfl (i4 N3 rT (o5 ce49)) n9) sn (rr))
theorem jI (e : Nat) (he : e < 18446744073709551616) (w0) : cR 133 #[uI (0 : Nat), uI e] w0 (.bool (decide (mE e))) := by
 refine cQ (co 15 [.tmp 4] func133 ?_)
 refine gw ?_
 refine e6 (Qt.dT (bM (b := 4294967295) rfl rfl) dc) (gw ?_)
 refine D9 rfl rfl rfl (C7 (b := 0) rfl rfl) (fun h9 => gw ?_) (fun h9 => gw ?_)
 ·refine D9 rfl rfl rfl (C7 (b := 18446744073709551615) rfl rfl) (fun h13 => gw ?_) (fun h13 => gw ?_)
  ·refine a9 (fR ?_)
   exact ⟨by rw [decide_eq_true (p := mE e) ⟨by omega, by omega⟩]; rfl, rfl⟩
  ·refine a9 (fR ?_)
   exact ⟨by rw [decide_eq_false (p := mE e) (fun h => by obtain ⟨a, b⟩ := h; omega)]; rfl, rfl⟩
 ·refine a9 (fR ?_)
  exact ⟨by rw [decide_eq_false (p := mE e) (fun h => by obtain ⟨a, b⟩ := h; omega)]; rfl, rfl⟩
theorem jG (x : OrdA) (hss : x.o.ss.length * 56 ≤ 140737488351232) (w0) (hS : Ro w0 [] (SlA x.B (x.o.ss.flatMap o4))) :
  cP 37 #[.agg (M7 x).toArray] w0 fun v L => ∃ B2 d2, v = .agg (G3 x.A x.c B2 d2 x.o).toArray ∧ L = [OwnA 91 49 B2 x.o.ss.length d2 ((x.o.ss).flatMap o4)] := by
 refine co 29 [.cell 2 96] func37 ?_
 refine gw ?_
 intro b1
 refine gw ?_
 intro b2
 refine gw ?_
 refine e6 (yK (a := iI x.o.kind) (b := sL x.A x.o.xs.length x.c) (c := uI (x.o.blocks : Int)) rfl rfl rfl (buildO _ _ _ _ _)) (gw ?_)
 intro b3
 refine j9 rfl (j5 rfl cw (by exact ce96) (by rfl) (by rfl) (gw ?_))
 refine m6 91 49 ?_
 refine l5 (γ := Nat × y8 × Nat) (mr 16 12 [5]) (fun g => [(16, iI g.1)]) (fun g => [OwnA 91 49 g.2.1 g.1 g.2.2 ((x.o.ss.take g.1).flatMap o4), Blk b3 96 [iI x.o.kind, sL x.A x.o.xs.length x.c, sL g.2.1 g.1 g.2.2, uI (x.o.blocks : Int)], Blk b2 96 [iI 0, sL none 0 0, sL none 0 0, uI 0]]) (fun g => g.1 ≤ x.o.ss.length) (fun g => x.o.ss.length - g.1) ((0, none, 0))
  (Nat.zero_le _) oa (sk (sk (sk (sd I8)))) ?_
 rintro ⟨k, A1, c1⟩ u hk
 dsimp only at hk
 show TC _ _ _ (puts [(16, iI k)] (scr _ u _)) [OwnA 91 49 A1 k c1 ((x.o.ss.take k).flatMap o4), Blk b3 96 [iI x.o.kind, sL x.A x.o.xs.length x.c, sL A1 k c1, uI (x.o.blocks : Int)], Blk b2 96 [iI 0, sL none 0 0, sL none 0 0, uI 0]]
 refine gw ?_
 refine j0 rfl rfl (p9 rfl rfl) (fun h17 => gw ?_) (fun h17 => gw ?_)
 ·refine e6 (i5 uT cT rfl rfl ow (c9 hS) (by rw [K2]; omega)) (e6 (a8 rfl (H4 (vs := o4 (x.o.ss.getD k A4)) (c9 hS) rT (by rw [k9]; exact ce136) (by rw [k9]; decide) (X6 ow rfl))) (gw ?_))
  intro b5
  refine j9 rfl (j5 (v := .agg (o4 (x.o.ss.getD k A4)).toArray) rfl rfl (by rw [o6, k9]; exact ce136) (aF _) (by rw [o6, k9]; rfl) (gw ?_))
  refine D1 ([5, 7], [4]) mixed (sk (sd (sd (sk I8)))) (gw ?_)
  refine c6 2 rfl (a8 rfl (i4 (vs := o4 (x.o.ss.getD k A4)) w5 rT (by rw [k9]; exact ce136))) (I7 3 rfl en (fun w hw => BL (x.o.ss.getD k A4) w) (aO 4 rfl (m5 (v := .agg (o4 (x.o.ss.getD k A4)).toArray) uT elem91 dc rfl (by rw [o6, k9]) (fun g24 => (G0 ?_)))))
  refine V5 5 rfl (Q1 (news := o4 (x.o.ss.getD k A4)) uT elem91 rfl rfl (j8 (cs := o4 (x.o.ss.getD k A4)) w5) (by rw [k9]) (List.all_eq_true.1 (aF _)) kx ow (fun O3 d3 => (G0 (gw ?_))))
  refine F7 7 rfl (jX rfl cw cT rfl rfl (Nat.le_of_ble_eq_true rfl) (G0 ?_))
  refine p7 (gw ?_)
  exact ⟨(k + 1, O3, d3), od, od, oz, (by dsimp only; rw [zei ow]; exact sp)⟩
 ·refine i7 (c8 (gw ?_))
  refine e6 (a8 rfl (i4 N3 rT (ce96))) (j9 rfl (K9 rfl cw (by exact ce96) (by rfl) (by rfl) (gw ?_)))
  refine a9 (finQ.ret (j7 rfl (i4 aH rT (ce96)) n9) (sx [0]) ?_)
  obtain rfl : k = x.o.ss.length := by omega
  rw [List.take_length]
  exact ⟨A1, c1, rfl, rfl⟩
theorem mX (t : TckA) (hss : t.x.o.ss.length * 56 ≤ 140737488351232) (w0) (hS : Ro w0 [] (SlA t.x.B (t.x.o.ss.flatMap o4))) :
  cP 78 #[.agg (W8 t).toArray] w0 fun v L => ∃ B2 d2, v = .agg (W8 (t.at B2 d2)).toArray ∧ L = [OwnA 91 49 B2 t.x.o.ss.length d2 ((t.x.o.ss).flatMap o4)] := by
 refine co 13 [.cell 2 98] func78 ?_
 refine gw ?_
 intro b1
 refine gw ?_
 intro b2
 refine gw ?_
 refine D1 ([10], [6]) mixed (sd (sk I8)) (gw ?_)
 refine c6 5 rfl (a8 rfl (Q0 (vs := M7 t.x) N3 rT ce58 (zhR t))) (gw ?_)
 refine c6 8 rfl (a8 rfl (Q0 (vs := e9 t.tag.1) N3 rT (by rw [o3, t.tag.2]; exact ce59) (zhS t))) ?_
 refine P5 6 rfl en (fun w hw => jG t.x hss w (Rd.ro hS w hw)) ?_
 rintro v L' ⟨B2, d2, rfl, rfl⟩
 refine c6 9 rfl (n8 (F5 (vs := [uI (t.u : Int), uI (t.e : Int), .agg (G3 t.x.A t.x.c B2 d2 t.x.o).toArray, .agg (e9 t.tag.1).toArray]) (pls := #[(0, 1), (1, 1), (2, 4), (6, 16)]) uT (fun w => by kernel_rfl) ze98 rfl ⟨rfl, rfl, rfl, (by show some (6, 16) = some (6, (e9 t.tag.1).length); rw [o3, t.tag.2]), trivial⟩ (by rw [FB, x6]; rfl)) (by rw [FB])) ?_
 refine F7 10 rfl (F9 (v := .agg (W8 (t.at B2 d2)).toArray) rfl rfl (by rw [o6, x6]; exact ce98) (xU _) (by rw [o6, x6]; rfl) (G0 ?_))
 refine p7 ?_
 refine a9 ?_
 refine finQ.ret (j7 rfl (i4 N3 rT ((by rw [o6, x6]; exact ce98))) n9) (sk (sd (sd I8))) ?_
 exact ⟨B2, d2, rfl, rfl⟩
theorem zd6 (q : ReqB) (hss : q.t.x.o.ss.length * 56 ≤ 140737488351232) (w0) (hS : Ro w0 [] (SlA q.t.x.B (q.t.x.o.ss.flatMap o4))) :
  cP 34 #[.agg (bL q).toArray] w0 fun v L => ∃ B2 d2, v = .agg (bL (q.at B2 d2)).toArray ∧ L = [OwnA 91 49 B2 q.t.x.o.ss.length d2 ((q.t.x.o.ss).flatMap o4)] := by
 refine co 19 [.cell 2 105] func34 ?_
 refine gw ?_
 intro b1
 refine gw ?_
 intro b2
 refine gw ?_
 refine D1 ([16], [12]) mixed (sd (sk I8)) (gw ?_)
 refine c6 11 rfl (a8 rfl (Q0 (vs := W8 q.t) N3 rT (by rw [x6]; exact ce61) (zht q))) (gw ?_)
 refine c6 14 rfl (a8 rfl (i9 (v := uI (q.ep : Int)) N3 oT (ziO q))) ?_
 refine P5 12 rfl en (fun w hw => mX q.t hss w (Rd.ro hS w hw)) ?_
 rintro v L' ⟨B2, d2, rfl, rfl⟩
 refine c6 15 rfl (n8 (F5 (vs := [uI (q.seq : Int), iI q.kind, sL q.A q.xs.length q.c, uI (q.first : Int), iI q.many, .agg (W8 (q.t.at B2 d2)).toArray, uI (q.ep : Int)]) (pls := #[(0, 1), (1, 1), (2, 1), (3, 1), (4, 1), (5, 22), (27, 1)]) uT (fun w => by kernel_rfl) ze105 rfl ⟨rfl, rfl, rfl, rfl, rfl, (by show some (5, 22) = some (5, (W8 _).length); rw [x6]), (by show some (27, 1) = some (5 + (W8 _).length, _); rw [x6]; rfl), trivial⟩ (by rw [EN, T8]; rfl)) (by rw [EN])) ?_
 refine F7 16 rfl (F9 (v := .agg (bL (q.at B2 d2)).toArray) rfl rfl (by rw [o6, T8]; exact ce105) (zhs _) (by rw [o6, T8]; rfl) (G0 ?_))
 refine p7 ?_
 refine a9 ?_
 refine finQ.ret (j7 rfl (i4 N3 rT ((by rw [o6, T8]; exact ce105))) n9) (sk (sd (sd I8))) ?_
 exact ⟨B2, d2, rfl, rfl⟩
theorem zd5 (r : RepB) (hss : r.t.x.o.ss.length * 56 ≤ 140737488351232) (hn : r.its.length ≤ 65536) (w0) (hS : Ro w0 [] (SlA r.t.x.B (r.t.x.o.ss.flatMap o4))) (hI : Ro w0 [] (SlA r.I (r.its.flatMap u9))) :
  cP 31 #[.agg (Y5 r).toArray] w0 fun v L => ∃ I i B2 d2, v = .agg (Y5 (r.at I i B2 d2)).toArray ∧ L = [OwnA 93 50 I r.its.length i ((r.its).flatMap u9), OwnA 91 49 B2 r.t.x.o.ss.length d2 ((r.t.x.o.ss).flatMap o4)] := by
 refine co 42 [.cell 2 100] func31 ?_
 refine gw ?_
 intro b1
 refine gw ?_
 intro b2
 refine l3 ?_
 refine Q8 (γ := Nat × y8 × Nat) (mr 6 16 [3]) (fun g => [(3, .pointer (some ⟨g.1, 0, none⟩))]) (fun g => [Blk g.1 100 (Y5 { r with t := r.t.at g.2.1 g.2.2, I := none, i := 0, its := [] }), OwnA 91 49 g.2.1 r.t.x.o.ss.length g.2.2 ((r.t.x.o.ss).flatMap o4), Blk b2 100 ([uI 0] ++ [iI 0] ++ [iI 0] ++ [sL none 0 0] ++ [.bool false] ++ ([uI 0] ++ [uI 0] ++ ([iI 0] ++ [sL none 0 0] ++ [sL none 0 0] ++ [uI 0]) ++ (List.replicate 16 (.int .u8 0))) ++ [sL none 0 0] ++ [sL none 0 0]), Blk b1 65 (Y5 r)]) (fun g => True) ?_ ?_
 ·refine dr ([17], [10, 16]) (gw ?_)
  refine c6 9 rfl (a8 rfl (Q0 (vs := W8 r.t) N3 rT (by rw [x6]; exact ce61) (zhq r))) (gw ?_)
  refine c6 12 rfl (a8 rfl (i9 (v := sL r.P r.pa.length r.p) N3 oT (nI r))) (gw ?_)
  refine c6 14 rfl (a8 rfl (i9 (v := sL r.Q r.pb.length r.q) N3 oT (nJ r))) (AZ (k1 := 10) (k2 := 16) sr rfl rfl kr kr rfl rfl rfl rfl ?_ ?_)
  ·refine (l8 (Pre := []) (R := _) en rfl pr (fun w hw => mX r.t hss w (Rd.ro hS w hw)) ?_)
   rintro v L' ⟨B2, d2, rfl, rfl⟩
   refine G0 ?_
   refine c6 15 rfl (n8 (yL (vs := [uI (r.seq : Int), iI r.kind, iI r.err]) (us := [.bool r.there, .agg (W8 (r.t.at B2 d2)).toArray, sL r.P r.pa.length r.p, sL r.Q r.pb.length r.q]) (pls := #[(0, 1), (1, 1), (2, 1), (3, 1), (4, 1), (5, 22), (27, 1), (28, 1)]) [uI 0, iI 0, iI 0] [sL none 0 0] _ 4 uT (fun w => by kernel_rfl) ze100 rfl rfl rfl (by show _ = ([Value.bool r.there] ++ (W8 (r.t.at B2 d2) ++ ([sL r.P r.pa.length r.p] ++ ([sL r.Q r.pb.length r.q] ++ [])))).length; rw [List.length_append, List.length_append, x6]; rfl) ⟨rfl, rfl, rfl, trivial⟩ ⟨rfl, (by show some (5, 22) = some (5, (W8 _).length); rw [x6]), (by show some (27, 1) = some (5 + (W8 _).length, _); rw [x6]; rfl), (by show some (28, 1) = some (5 + (W8 _).length + 1, _); rw [x6]; rfl), trivial⟩) (by rw [EM])) (aO 16 rfl (z4 zT (fun b3 => (G0 ?_))))
   refine F7 17 rfl (j5 (v := .agg (Y5 { r with t := r.t.at B2 d2, I := none, i := 0, its := [] }).toArray) rfl rfl (by rw [o6, G8]; exact ce100) (kS _) (by rw [o6, G8]; rfl) (G0 ?_))
   refine p7 ?_
   refine ⟨(b3, B2, d2), ?_, ⟨?_, ag⟩, sr⟩
   ·trivial
   exact K8
  ·refine (z4 zT (fun b3 => (G0 ?_)))
   refine P5 10 rfl en (fun w hw => mX r.t hss w (Rd.ro hS w hw)) ?_
   rintro v L' ⟨B2, d2, rfl, rfl⟩
   refine c6 15 rfl (n8 (yL (vs := [uI (r.seq : Int), iI r.kind, iI r.err]) (us := [.bool r.there, .agg (W8 (r.t.at B2 d2)).toArray, sL r.P r.pa.length r.p, sL r.Q r.pb.length r.q]) (pls := #[(0, 1), (1, 1), (2, 1), (3, 1), (4, 1), (5, 22), (27, 1), (28, 1)]) [uI 0, iI 0, iI 0] [sL none 0 0] _ 4 uT (fun w => by kernel_rfl) ze100 rfl rfl rfl (by show _ = ([Value.bool r.there] ++ (W8 (r.t.at B2 d2) ++ ([sL r.P r.pa.length r.p] ++ ([sL r.Q r.pb.length r.q] ++ [])))).length; rw [List.length_append, List.length_append, x6]; rfl) ⟨rfl, rfl, rfl, trivial⟩ ⟨rfl, (by show some (5, 22) = some (5, (W8 _).length); rw [x6]), (by show some (27, 1) = some (5 + (W8 _).length, _); rw [x6]; rfl), (by show some (28, 1) = some (5 + (W8 _).length + 1, _); rw [x6]; rfl), trivial⟩) (by rw [EM])) (F7 17 rfl (F9 (v := .agg (Y5 { r with t := r.t.at B2 d2, I := none, i := 0, its := [] }).toArray) rfl rfl (by rw [o6, G8]; exact ce100) (kS _) (by rw [o6, G8]; rfl) (G0 ?_)))
   refine p7 ?_
   refine ⟨(b3, B2, d2), ?_, ⟨?_, ag⟩, sp⟩
   ·trivial
   exact K8
 ·rintro ⟨b3, B2, d2⟩ u hv
  dsimp only
  refine gw ?_
  refine m6 93 50 ?_
  refine l5 (γ := Nat × y8 × Nat) (mr 25 16 [5]) (fun g => [(25, iI g.1)]) (fun g => [OwnA 93 50 g.2.1 g.1 g.2.2 ((r.its.take g.1).flatMap u9), Blk b3 100 (uI (r.seq : Int) :: iI r.kind :: iI r.err :: sL g.2.1 g.1 g.2.2 :: .bool r.there :: (W8 (r.t.at B2 d2) ++ [sL r.P r.pa.length r.p, sL r.Q r.pb.length r.q])), OwnA 91 49 B2 r.t.x.o.ss.length d2 ((r.t.x.o.ss).flatMap o4), Blk b2 100 ([uI 0] ++ [iI 0] ++ [iI 0] ++ [sL none 0 0] ++ [.bool false] ++ ([uI 0] ++ [uI 0] ++ ([iI 0] ++ [sL none 0 0] ++ [sL none 0 0] ++ [uI 0]) ++ (List.replicate 16 (.int .u8 0))) ++ [sL none 0 0] ++ [sL none 0 0])]) (fun g => g.1 ≤ r.its.length) (fun g => r.its.length - g.1) ((0, none, 0))
   (Nat.zero_le _) oa (sk (sk (sk (sk (sd I8))))) ?_
  rintro ⟨k, A1, c1⟩ u hk
  dsimp only at hk
  show TC _ _ _ (puts [(25, iI k)] (scr _ u _)) [OwnA 93 50 A1 k c1 ((r.its.take k).flatMap u9), Blk b3 100 (uI (r.seq : Int) :: iI r.kind :: iI r.err :: sL A1 k c1 :: .bool r.there :: (W8 (r.t.at B2 d2) ++ [sL r.P r.pa.length r.p, sL r.Q r.pb.length r.q])), OwnA 91 49 B2 r.t.x.o.ss.length d2 ((r.t.x.o.ss).flatMap o4), Blk b2 100 ([uI 0] ++ [iI 0] ++ [iI 0] ++ [sL none 0 0] ++ [.bool false] ++ ([uI 0] ++ [uI 0] ++ ([iI 0] ++ [sL none 0 0] ++ [sL none 0 0] ++ [uI 0]) ++ (List.replicate 16 (.int .u8 0))) ++ [sL none 0 0] ++ [sL none 0 0])]
  refine gw ?_
  refine j0 rfl rfl (p9 rfl rfl) (fun h26 => gw ?_) (fun h26 => gw ?_)
  ·refine e6 (i5 uT cT rfl rfl ow (c9 hI) (by rw [Z9]; omega)) (e6 (a8 rfl (H4 (vs := u9 (r.its.getD k z8)) (c9 hI) rT (by rw [m0]; exact ce138) (by rw [m0]; decide) (bQ ow rfl))) (gw ?_))
   intro b5
   refine j9 rfl (j5 (v := .agg (u9 (r.its.getD k z8)).toArray) rfl rfl (by rw [o6, m0]; exact ce138) (Y1 _) (by rw [o6, m0]; rfl) (gw ?_))
   refine D1 ([9, 11], [8]) mixed (sk (sd (sd (sk (sk I8))))) (gw ?_)
   refine c6 5 rfl (a8 rfl (Q0 (vs := o4 (r.its.getD k z8).s) w5 rT (by rw [k9]; exact ce136) (cD _))) (I7 6 rfl en (fun w hw => BL (r.its.getD k z8).s w) (c6 7 rfl (n8 (F5 (vs := [.bool (r.its.getD k z8).there, .agg (o4 (r.its.getD k z8).s).toArray]) (pls := #[(0, 1), (1, 49)]) uT (fun w => by kernel_rfl) ze93 rfl ⟨rfl, (by show some (1, 49) = some (1, (o4 (r.its.getD k z8).s).length); rw [k9]), trivial⟩ (by rw [bD, m0]; rfl)) (by rw [bD])) (aO 8 rfl (m5 (v := .agg (u9 (r.its.getD k z8)).toArray) uT elem93 dc rfl (by rw [o6, m0]) (fun g37 => (G0 ?_))))))
   refine V5 9 rfl (Q1 (news := u9 (r.its.getD k z8)) uT elem93 rfl rfl (j8 (cs := u9 (r.its.getD k z8)) w5) (by rw [m0]) (List.all_eq_true.1 (Y1 _)) kx ow (fun O3 d3 => (G0 (gw ?_))))
   refine F7 11 rfl (zbR rfl cw cT rfl rfl (by show 3 < (_ :: _ :: _ :: _ :: _ :: _).length; simp only [List.length_cons]; omega) (rfl) (G0 ?_))
   refine p7 (gw ?_)
   exact ⟨(k + 1, O3, d3), od, od, oz, (by dsimp only; rw [zH ow]; exact sp)⟩
  ·refine i7 (c8 (c7 ?_))
   obtain rfl : k = r.its.length := by omega
   rw [List.take_length]
   skip
   refine e6 (a8 rfl (i4 (vs := Y5 (r.at A1 c1 B2 d2)) N3 rT (by rw [G8]; exact ce100))) (j9 rfl (R5 (v := .agg (Y5 (r.at A1 c1 B2 d2)).toArray) rfl rfl (by rw [o6, G8]; exact ce100) (kS _) (by rw [o6, G8]; rfl) (gw ?_)))
   refine a9 (finQ.ret (j7 rfl (i4 tV rT ((by rw [o6, G8]; exact ce100))) n9) (sx [0, 1]) ?_)
   exact ⟨A1, c1, B2, d2, rfl, rfl⟩
theorem elem170 : S3 prog 170 50 64 := S4 (by kernel_rfl)
theorem zg4 (n : Nat) (A) (c : Nat) (M : Sm) (hl : M.length ≤ 4095) (i : Nat) (hi : i < 18446744073709551616) (w0) (lw : ∀ y ∈ M, y.1 < 18446744073709551616) (hM : Ro w0 [] (SlA A (M.flatMap M9))) : cR 77 #[.agg #[uI n, sL A M.length c], uI i] w0 (.agg (u9 (Z0 M i)).toArray) := by
 refine cQ (co 29 [.cell 4 93] func77 ?_)
 refine gw ?_
 intro b2
 refine gw ?_
 intro b4
 refine gw ?_
 refine l5 (γ := Nat) (mr 5 23 []) (fun k => [(5, iI k)]) (fun _ => _) (fun k => k ≤ M.length ∧ ∀ j, j < k → (M.getD j H0).1 ≠ i) (fun k => M.length - k) (0)
  ⟨Nat.zero_le _, fun j h => absurd h (Nat.not_lt_zero _)⟩ oa sr ?_
 rintro k u ⟨hk, hq⟩
 refine gw ?_
 refine j0 rfl rfl (p9 rfl rfl) (fun h10 => gw ?_) (fun h10 => gw ?_)
 ·refine e6 (i5 uT cT rfl rfl ow (c9 hM) (by rw [I1]; omega)) (e6 (z5 uT rfl ce40 rfl (c9 hM) (by rw [I1]; omega)) (e6 (a8 rfl (A9 (v := uI ((M.getD k H0).1 : Int)) (c9 hM) oT (bO ow 0 _ rfl))) (gw ?_)))
  refine j0 rfl rfl (z6 rfl rfl) (fun h20 => gw ?_) (fun h20 => gw ?_)
  ·refine e6 (i5 uT cT rfl rfl ow (c9 hM) (by rw [I1]; omega)) (e6 (z5 uT rfl ce91 rfl (c9 hM) (by rw [I1]; omega)) (e6 (a8 rfl (H4 (vs := o4 (M.getD k H0).2) (c9 hM) rT (by rw [k9]; exact ce91) (by rw [k9]; decide) (fun j v hj => by have q := bO (k := k) ow (1 + j) v (yS _ j v hj); rw [← Nat.add_assoc] at q; exact q))) (e6 (n8 (F5 (vs := [.bool true, .agg (o4 (M.getD k H0).2).toArray]) (pls := #[(0, 1), (1, 49)]) uT (fun w => by kernel_rfl) ze93 rfl ⟨rfl, (by show some (1, 49) = some (1, (o4 (M.getD k H0).2).length); rw [k9]), trivial⟩ (by rw [bD, m0]; rfl)) (by rw [bD])) (j9 rfl (j5 (v := .agg (u9 ⟨true, (M.getD k H0).2⟩).toArray) rfl rfl (by rw [o6, m0]; exact ce93) (Y1 _) (by rw [o6, m0]; rfl) (gw ?_))))))
   refine a9 (finQ.ret (j7 rfl (i4 w5 rT ((by rw [o6, m0]; exact ce93))) n9) sn ?_)
   exact ⟨congrArg (fun x => Value.agg (u9 x).toArray) (zg3 (GU h10 hq h20)).symm, rfl⟩
  ·refine ⟨k + 1, ?_, od, oz, sr⟩
   exact ⟨by show _ ≤ _; omega, fun j hj => (Nat.lt_or_ge j k).elim (hq j) (fun h => by (obtain rfl : j = k := by omega); exact h20)⟩
 ·refine i7 (c8 (gw ?_))
  refine e6 (C8 (v := .agg (u9 z8).toArray) rfl (fun _ => by kernel_rfl)) (j9 rfl (j5 (v := .agg (u9 z8).toArray) rfl rfl (by rw [o6, m0]; exact ce93) (Y1 _) (by rw [o6, m0]; rfl) (gw ?_)))
  refine a9 (finQ.ret (j7 rfl (i4 w5 rT ((by rw [o6, m0]; exact ce93))) n9) sn ?_)
  exact ⟨congrArg (fun x => Value.agg (u9 x).toArray) (DP (zg9 (fun j hj => hq j ow))).symm, rfl⟩
theorem nE (n : Nat) (A) (c : Nat) (M : Sm) (hl : M.length ≤ 4095) (B) (e : Nat) (xs : List Nat) (hx : xs.length ≤ 65536) (w0) (lw : ∀ y ∈ M, y.1 < 18446744073709551616) (hM : Ro w0 [] (SlA A (M.flatMap M9))) (hlowx : lW xs) (hR : Ro w0 [] (SlA B (w6 xs))) :
  cP 30 #[.agg #[uI n, sL A M.length c], sL B xs.length e] w0 fun v L => ∃ O d, v = sL O xs.length d ∧ L = [OwnA 93 50 O xs.length d ((xs.map (Z0 M)).flatMap u9)] := by
 refine co 23 [.tmp 4] func30 ?_
 refine gw ?_
 intro b2
 refine gw ?_
 refine m6 93 50 ?_
 refine l5 (γ := Nat × y8 × Nat) (mr 5 17 []) (fun g => [(6, iI g.1), (5, sL g.2.1 g.1 g.2.2)]) (fun g => [OwnA 93 50 g.2.1 g.1 g.2.2 (((xs.take g.1).map (Z0 M)).flatMap u9), Blk b2 76 [uI n, sL A M.length c]]) (fun g => g.1 ≤ xs.length) (fun g => xs.length - g.1) ((0, none, 0))
  (Nat.zero_le _) oa sr ?_
 rintro ⟨k, O, d⟩ u hk
 dsimp only at hk
 show TC _ _ _ (puts [(6, iI k), (5, sL O k d)] (scr _ u _)) [OwnA 93 50 O k d (((xs.take k).map (Z0 M)).flatMap u9), Blk b2 76 [uI n, sL A M.length c]]
 refine gw ?_
 refine j0 rfl rfl (p9 rfl rfl) (fun h10 => gw ?_) (fun h10 => gw ?_)
 ·refine D1 ([8], [7]) mixed (sd (sk I8)) (gw ?_)
  refine c6 1 rfl (a8 rfl (i4 N3 rT (ce76))) (gw ?_)
  refine c6 4 rfl (i5 uT cT rfl rfl ow (c9 hR) (by rw [D5]; omega)) (c6 5 rfl (a8 rfl (A9 (v := uI ↑(xs.getD k 0)) (c9 hR) oT (F6 ow))) (I7 6 rfl en (fun w hw => zg4 n A c M hl (xs.getD k 0) (hlowx _ (E6 0 ow)) w lw (Rd.ro hM w hw)) (aO 7 rfl (m5 (v := .agg (u9 (Z0 M (xs.getD k 0))).toArray) uT elem93 dc rfl (by rw [o6, m0]) (fun g20 => (G0 ?_))))))
  refine V5 8 rfl (G1 (news := u9 (Z0 M (xs.getD k 0))) uT elem93 rfl rfl (j8 (cs := u9 (Z0 M (xs.getD k 0))) w5) (by rw [m0]) (List.all_eq_true.1 (Y1 _)) kx ow (fun O3 d3 => (G0 (gw ?_))))
  refine p7 (gw ?_)
  exact ⟨(k + 1, O3, d3), od, od, oz, (by dsimp only; rw [vU M xs ow]; exact sp)⟩
 ·refine i7 (c8 (gw ?_))
  refine a9 (D7 (sx [0]) ?_)
  obtain rfl : k = xs.length := by omega
  rw [List.take_length]
  exact ⟨O, d, rfl, rfl⟩
theorem sU (n : Nat) (A) (c : Nat) (M : Sm) (hl : M.length ≤ 4095) (hnd : (o9 M).Nodup) (i : Nat) (hi : i < 18446744073709551616) (x : Go.E.Item) (w0) (lw : ∀ y ∈ M, y.1 < 18446744073709551616) (hM : Ro w0 [] (SlA A (M.flatMap M9))) :
  cP 134 #[.agg #[uI n, sL A M.length c], uI i, .agg (u9 x).toArray] w0 fun v L => ∃ M2 A2 c2, v = .agg #[uI n, sL A2 M2.length c2] ∧ L = [OwnA 170 50 A2 (M2).length c2 ((M2).flatMap M9)] ∧ PutD i x M M2 := by
 refine co 74 [.cell 6 76] func134 ?_
 refine m6 170 50 (gw ?_)
 intro b3
 refine gw ?_
 intro b5
 refine gw ?_
 intro b6
 refine gw ?_
 refine e6 (C8 (v := .agg #[uI n, sL none 0 0]) rfl (fun _ => by kernel_rfl)) (gw ?_)
 intro b7
 refine j9 rfl (j5 rfl cw (by exact ce76) (by rfl) (by rfl) ?_)
 refine gw ?_
 refine e6 (pV rfl) (gw ?_)
 refine l5 (γ := Nat × Sm × Bool × y8 × Nat) (mr 16 46 [8, 9]) (fun g => [(9, iI g.1), (8, .bool g.2.2.1)]) (fun g => [OwnA 170 50 g.2.2.2.1 (g.2.1).length g.2.2.2.2 ((g.2.1).flatMap M9), Blk b7 76 [uI n, sL g.2.2.2.1 g.2.1.length g.2.2.2.2], Blk b6 76 [uI 0, sL none 0 0], Blk b5 93 (u9 x), Blk b3 76 [uI n, sL A M.length c]]) (fun g => g.1 ≤ M.length ∧ PutM i x M g.1 g.2.2.1 g.2.1) (fun g => M.length - g.1) ((0, [], !x.there, none, 0))
  ⟨Nat.zero_le _, PutM.zero ..⟩ oa sp ?_
 rintro ⟨k, out, dn, A1, c1⟩ u ⟨hk, hp⟩
 dsimp only at hk hp
 have hol : out.length ≤ k + 1 := hp.len
 refine gw ?_
 refine j0 rfl rfl (p9 rfl rfl) (fun h20 => ?_) (fun h20 => ?_)
 ·refine l3 (Q3 rfl (w8 (c8 (C5 (c8 (c8 (c7 ?_)))))))
  cases dn
  ·refine e6 (m8 rfl) (gw ?_)
   refine E8 rfl rfl rfl (i5 uT cT rfl rfl ow (c9 hM) (by rw [I1]; omega)) ?_
   refine E8 rfl rfl rfl (z5 uT rfl ce40 rfl (c9 hM) (by rw [I1]; omega)) ?_
   refine E8 rfl rfl rfl (a8 rfl (A9 (v := uI ((M.getD k H0).1 : Int)) (c9 hM) oT (bO ow 0 _ rfl))) (gw ?_)
   refine D9 rfl rfl rfl (T0 rfl rfl) (fun h33 => gw ?_) (fun h33 => gw ?_)
   ·refine e6 (a8 rfl (Q0 (vs := o4 x.s) tV rT (by rw [k9]; exact ce91) (cD x))) ?_
    refine e6 (n8 (F5 (vs := [uI i, .agg (o4 x.s).toArray]) (pls := #[(0, 1), (1, 49)]) uT (fun w => by kernel_rfl) ze170 rfl ⟨rfl, (by show some (1, 49) = some (1, (o4 x.s).length); rw [k9]), trivial⟩ (by rw [oD, F1]; rfl)) (by rw [oD])) ?_
    refine z7 (m5 (v := .agg (M9 (i, x.s)).toArray) uT elem170 dc rfl (lG _) (fun g41 => ?_))
    refine z7 (G1 (news := M9 (i, x.s)) uT elem170 rfl rfl (j8 (cs := M9 (i, x.s)) w5) (by rw [F1]) (gV _) kx od (fun O1 d1 => ?_))
    refine gw ?_
    refine j9 rfl (R4 rfl cw cT rfl rfl (Nat.le_of_ble_eq_true rfl) ?_)
    refine gw ?_
    refine e6 (i5 uT cT rfl rfl ow (c9 hM) (by rw [I1]; omega)) ?_
    refine e6 (z5 uT rfl ce40 rfl (c9 hM) (by rw [I1]; omega)) ?_
    refine e6 (a8 rfl (A9 (v := uI ((M.getD k H0).1 : Int)) (c9 hM) oT (bO ow 0 _ rfl))) (gw ?_)
    refine j0 rfl rfl (C7 rfl rfl) (fun h51 => gw ?_) (fun h51 => gw ?_)
    ·refine D1 ([8, 10], [7]) mixed (sk (sd (sd (sk (sk (sk I8)))))) (gw ?_)
     refine c6 5 rfl (i5 uT cT rfl rfl ow (c9 hM) (by rw [I1]; omega)) ?_
     refine c6 6 rfl (a8 rfl (H4 (vs := M9 (M.getD k H0)) (c9 hM) rT (by rw [F1]; exact ce170) (by rw [F1]; decide) (bO ow))) ?_
     refine aO 7 rfl (m5 (v := .agg (M9 (M.getD k H0)).toArray) uT elem170 dc rfl (lG _) (fun g59 => (G0 ?_)))
     refine V5 8 rfl (Q1 (news := M9 (M.getD k H0)) uT elem170 rfl rfl (j8 (cs := M9 (M.getD k H0)) w5) (by rw [F1]) (gV _) kx od (fun O2 d2 => (G0 ?_)))
     refine gw ?_
     refine F7 10 rfl (jX rfl cw cT rfl rfl (Nat.le_of_ble_eq_true rfl) (G0 ?_))
     refine p7 (gw ?_)
     refine ⟨(k + 1, out ++ [(i, x.s)] ++ [(M.getD k H0)], true, O2, d2), ?_, od, oz, (by dsimp only; simp only [s9, Y0]; exact sp)⟩
     exact ⟨by show _ ≤ _; dsimp only; omega, (hp.ins hi).keep hnd h20 h51 (tQ lw h20)⟩
    ·refine ⟨(k + 1, out ++ [(i, x.s)], true, O1, d1), ?_, od, oz, (by dsimp only; simp only [s9, Y0]; exact sp)⟩
     exact ⟨by show _ ≤ _; dsimp only; omega, (hp.ins hi).drop h20 (Decidable.not_not.1 h51)⟩
   ·refine e6 (i5 uT cT rfl rfl ow (c9 hM) (by rw [I1]; omega)) ?_
    refine e6 (z5 uT rfl ce40 rfl (c9 hM) (by rw [I1]; omega)) ?_
    refine e6 (a8 rfl (A9 (v := uI ((M.getD k H0).1 : Int)) (c9 hM) oT (bO ow 0 _ rfl))) (gw ?_)
    refine j0 rfl rfl (C7 rfl rfl) (fun h51 => gw ?_) (fun h51 => gw ?_)
    ·refine D1 ([8, 10], [7]) mixed (sd (sd (sk (sk (sk I8))))) (gw ?_)
     refine c6 5 rfl (i5 uT cT rfl rfl ow (c9 hM) (by rw [I1]; omega)) ?_
     refine c6 6 rfl (a8 rfl (H4 (vs := M9 (M.getD k H0)) (c9 hM) rT (by rw [F1]; exact ce170) (by rw [F1]; decide) (bO ow))) ?_
     refine aO 7 rfl (m5 (v := .agg (M9 (M.getD k H0)).toArray) uT elem170 dc rfl (lG _) (fun g59 => (G0 ?_)))
     refine V5 8 rfl (G1 (news := M9 (M.getD k H0)) uT elem170 rfl rfl (j8 (cs := M9 (M.getD k H0)) w5) (by rw [F1]) (gV _) kx od (fun O2 d2 => (G0 ?_)))
     refine gw ?_
     refine F7 10 rfl (R4 rfl cw cT rfl rfl (Nat.le_of_ble_eq_true rfl) (G0 ?_))
     refine p7 (gw ?_)
     refine ⟨(k + 1, out ++ [(M.getD k H0)], false, O2, d2), ?_, od, oz, (by dsimp only; simp only [s9, Y0]; exact sp)⟩
     exact ⟨by show _ ≤ _; dsimp only; omega, hp.keep hnd h20 h51 (tQ lw h20)⟩
    ·refine ⟨(k + 1, out, false, A1, c1), ?_, od, oz, sr⟩
     exact ⟨by show _ ≤ _; dsimp only; omega, hp.drop h20 (Decidable.not_not.1 h51)⟩
  ·refine e6 (m8 rfl) (gw ?_)
   refine e6 (i5 uT cT rfl rfl ow (c9 hM) (by rw [I1]; omega)) ?_
   refine e6 (z5 uT rfl ce40 rfl (c9 hM) (by rw [I1]; omega)) ?_
   refine e6 (a8 rfl (A9 (v := uI ((M.getD k H0).1 : Int)) (c9 hM) oT (bO ow 0 _ rfl))) (gw ?_)
   refine j0 rfl rfl (C7 rfl rfl) (fun h51 => gw ?_) (fun h51 => gw ?_)
   ·refine D1 ([8, 10], [7]) mixed (sd (sd (sk (sk (sk I8))))) (gw ?_)
    refine c6 5 rfl (i5 uT cT rfl rfl ow (c9 hM) (by rw [I1]; omega)) ?_
    refine c6 6 rfl (a8 rfl (H4 (vs := M9 (M.getD k H0)) (c9 hM) rT (by rw [F1]; exact ce170) (by rw [F1]; decide) (bO ow))) ?_
    refine aO 7 rfl (m5 (v := .agg (M9 (M.getD k H0)).toArray) uT elem170 dc rfl (lG _) (fun g59 => (G0 ?_)))
    refine V5 8 rfl (G1 (news := M9 (M.getD k H0)) uT elem170 rfl rfl (j8 (cs := M9 (M.getD k H0)) w5) (by rw [F1]) (gV _) kx od (fun O2 d2 => (G0 ?_)))
    refine gw ?_
    refine F7 10 rfl (R4 rfl cw cT rfl rfl (Nat.le_of_ble_eq_true rfl) (G0 ?_))
    refine p7 (gw ?_)
    refine ⟨(k + 1, out ++ [(M.getD k H0)], true, O2, d2), ?_, od, oz, (by dsimp only; simp only [s9, Y0]; exact sp)⟩
    exact ⟨by show _ ≤ _; dsimp only; omega, hp.keep hnd h20 h51 (tQ lw h20)⟩
   ·refine ⟨(k + 1, out, true, A1, c1), ?_, od, oz, sr⟩
    exact ⟨by show _ ≤ _; dsimp only; omega, hp.drop h20 (Decidable.not_not.1 h51)⟩
 ·refine gw ?_
  refine i7 (c8 (c8 (c7 ?_)))
  cases dn
  ·refine e6 (m8 rfl) (gw ?_)
   refine e6 (a8 rfl (Q0 (vs := o4 x.s) tV rT (by rw [k9]; exact ce91) (cD x))) ?_
   refine e6 (n8 (F5 (vs := [uI i, .agg (o4 x.s).toArray]) (pls := #[(0, 1), (1, 49)]) uT (fun w => by kernel_rfl) ze170 rfl ⟨rfl, (by show some (1, 49) = some (1, (o4 x.s).length); rw [k9]), trivial⟩ (by rw [oD, F1]; rfl)) (by rw [oD])) ?_
   refine z7 (m5 (v := .agg (M9 (i, x.s)).toArray) uT elem170 dc rfl (lG _) (fun g70 => ?_))
   refine z7 (G1 (news := M9 (i, x.s)) uT elem170 rfl rfl (j8 (cs := M9 (i, x.s)) w5) (by rw [F1]) (gV _) kx od (fun O1 d1 => ?_))
   refine gw ?_
   refine j9 rfl (R4 rfl cw cT rfl rfl (Nat.le_of_ble_eq_true rfl) ?_)
   refine gw ?_
   refine e6 (a8 rfl (i4 aH rT (ce76))) ?_
   refine j9 rfl (R5 rfl cw (by exact ce76) (by rfl) (by rfl) ?_)
   refine gw ?_
   refine a9 ?_
   refine finQ.ret (j7 rfl (i4 tV rT (ce76)) n9) (sT (sk (sd (sd (sd (sd (sd I8)))))) (sT (sk sr) (e5 pm1))) ?_
   exact ⟨_, O1, d1, by rw [s9]; rfl, by rw [s9, Y0], (hp.ins hi).end ow⟩
  ·refine e6 (m8 rfl) (gw ?_)
   refine e6 (a8 rfl (i4 N3 rT (ce76))) ?_
   refine j9 rfl (K9 rfl cw (by exact ce76) (by rfl) (by rfl) ?_)
   refine gw ?_
   refine a9 ?_
   refine finQ.ret (j7 rfl (i4 aH rT (ce76)) n9) (sk (sd (sd (sd (sd I8))))) ?_
   exact ⟨out, A1, c1, rfl, rfl, hp.end ow⟩
theorem zdz (n : Nat) (A) (c : Nat) (M : Sm) (hl : M.length ≤ 4095) (x : OrdA) (hk : x.o.kind = 3) (w0) (lw : ∀ y ∈ M, y.1 < 18446744073709551616) (hL : Sat w0 [OwnA 170 50 A (M).length c ((M).flatMap M9)]) :
  Calls prog 71 #[.agg #[uI n, sL A M.length c], .agg (M7 x).toArray] w0 (D0 w0 (A8 [OwnA 170 50 A (M).length c ((M).flatMap M9)]) fun v L => ∃ A2 c2, v = .agg #[uI (x.o.blocks : Int), sL A2 (dH x.o.blocks M).length c2] ∧ L = [OwnA 170 50 A2 (dH x.o.blocks M).length c2 ((dH x.o.blocks M).flatMap M9)]) := by
 refine gW (L := [OwnA 170 50 A (M).length c ((M).flatMap M9)]) 71 [.cell 4 76] func71 hL ?_
 refine m6 170 50 (gw ?_)
 intro b2
 refine gw ?_
 intro b3
 refine gw ?_
 intro b4
 refine gw ?_
 refine e6 (Qt.dT (I5 rfl rfl) (hk)) (gw ?_)
 refine e6 (C8 (v := .agg #[uI (x.o.blocks : Int), sL none 0 0]) rfl (fun _ => by kernel_rfl)) (gw ?_)
 intro b5
 refine j9 rfl (j5 rfl cw (by exact ce76) (by rfl) (by rfl) (gw ?_))
 refine l5 (γ := Nat × Sm × y8 × Nat) (mr 15 26 [6]) (fun g => [(6, iI g.1)]) (fun g => [OwnA 170 50 g.2.2.1 (g.2.1).length g.2.2.2 ((g.2.1).flatMap M9), Blk b5 76 [uI (x.o.blocks : Int), sL g.2.2.1 g.2.1.length g.2.2.2], Blk b4 76 [uI 0, sL none 0 0], Blk b3 96 (M7 x), Blk b2 76 [uI n, sL A M.length c], OwnA 170 50 A (M).length c ((M).flatMap M9)]) (fun g => g.1 ≤ M.length ∧ g.2.1 = dH x.o.blocks (M.take g.1)) (fun g => M.length - g.1) ((0, [], none, 0))
  ⟨Nat.zero_le _, rfl⟩ oa sp ?_
 rintro ⟨k, out, A1, c1⟩ u ⟨hk2, ho⟩
 dsimp only at hk2 ho
 have hol : out.length ≤ k := by rw [ho]; exact zij x.o.blocks M hk2
 refine gw ?_
 refine j0 rfl rfl (p9 rfl rfl) (fun h19 => gw ?_) (fun h19 => gw ?_)
 ·refine dw ([], []) (gw ?_)
  refine c6 3 rfl (i5 uT cT rfl rfl ow (x8 (s6 5 rfl)) (by rw [I1]; omega)) (c6 4 rfl (z5 uT rfl ce40 rfl (x8 (s6 5 rfl)) (by rw [I1]; omega)) (c6 5 rfl (a8 rfl (A9 (v := uI ((M.getD k H0).1 : Int)) (x8 (s6 5 rfl)) oT (bO ow 0 _ rfl))) (gw ?_)))
  refine aY (k := 8) rfl kr kr kr rfl rfl (p9 rfl rfl) (fun h30 => ?_) (fun h30 => ?_)
  ·refine p7 (gw ?_)
   refine D1 ([8, 10], [7]) mixed (sd (sd (sk (sk (sk (sk I8)))))) (gw ?_)
   refine c6 5 rfl (i5 uT cT rfl rfl ow (x8 (s6 5 rfl)) (by rw [I1]; omega)) (c6 6 rfl (a8 rfl (H4 (vs := M9 (M.getD k H0)) (x8 (s6 5 rfl)) rT (by rw [F1]; exact ce170) (by rw [F1]; decide) (bO ow))) (aO 7 rfl (m5 (v := .agg (M9 (M.getD k H0)).toArray) uT elem170 dc rfl (lG _) (fun g38 => (G0 ?_)))))
   refine V5 8 rfl (G1 (news := M9 (M.getD k H0)) uT elem170 rfl rfl (j8 (cs := M9 (M.getD k H0)) w5) (by rw [F1]) (gV _) kx od (fun O1 d1 => (G0 (gw ?_))))
   refine F7 10 rfl (R4 rfl cw cT rfl rfl (Nat.le_of_ble_eq_true rfl) (G0 ?_))
   refine p7 (gw ?_)
   refine ⟨(k + 1, out ++ [(M.getD k H0)], O1, d1), ?_, od, oz, (by dsimp only; simp only [s9, Y0]; exact sp)⟩
   exact ⟨by show _ ≤ _; dsimp only; omega, by dsimp only; rw [DF h19, if_pos h30, ho]⟩
  ·refine p7 (gw ?_)
   refine ⟨(k + 1, out, A1, c1), ?_, od, oz, sr⟩
   exact ⟨by show _ ≤ _; dsimp only; omega, by dsimp only; rw [DF h19, if_neg h30, ho]⟩
 ·refine i7 (c8 (gw ?_))
  refine e6 (a8 rfl (i4 N3 rT (ce76))) (j9 rfl (K9 rfl cw (by exact ce76) (by rfl) (by rfl) (gw ?_)))
  refine a9 (finQ.ret (j7 rfl (i4 aH rT (ce76)) n9) (sx [0]) ?_)
  obtain rfl : k = M.length := by omega
  rw [List.take_length] at ho
  subst ho
  exact ⟨A1, c1, rfl, rfl⟩
theorem zdA (n : Nat) (A) (c : Nat) (M : Sm) (hl : M.length ≤ 4095) (x : OrdA) (Y : Sm) (hY : (o9 Y).Nodup) (cN : Nat) (hc12 : cN + x.o.xs.length ≤ 4095) (hd : DocOk Y M cN) (hr : A7 x.o) (hk : x.o.kind ≠ 3) (hlx : ∀ y ∈ x.o.xs, y < 18446744073709551616) (w0) (lw : ∀ y ∈ M, y.1 < 18446744073709551616) (hL : Sat w0 [OwnA 170 50 A (M).length c ((M).flatMap M9)]) (hR : Ro w0 (A8 [OwnA 170 50 A (M).length c ((M).flatMap M9)]) (SlA x.A (w6 x.o.xs))) (hS : Ro w0 (A8 [OwnA 170 50 A (M).length c ((M).flatMap M9)]) (SlA x.B (x.o.ss.flatMap o4))) :
  Calls prog 71 #[.agg #[uI n, sL A M.length c], .agg (M7 x).toArray] w0 (D0 w0 (A8 [OwnA 170 50 A (M).length c ((M).flatMap M9)]) fun v L => ∃ M2 A2 c2, v = .agg #[uI n, sL A2 M2.length c2] ∧ L = [OwnA 170 50 A2 (M2).length c2 ((M2).flatMap M9)] ∧ DocOk (kV x.o Y x.o.xs.length) M2 (cN + x.o.xs.length)) := by
 refine gW (L := [OwnA 170 50 A (M).length c ((M).flatMap M9)]) 71 [.cell 4 76] func71 hL ?_
 refine gw ?_
 intro b2
 refine gw ?_
 intro b3
 refine gw ?_
 intro b4
 refine gw ?_
 refine e6 (Qt.dF (I5 rfl rfl) (hk)) (gw ?_)
 refine l5 (γ := Nat × Sm × y8 × Nat) (mr 42 28 [7, 8]) (fun g => [(7, iI g.1)]) (fun g => [OwnA 170 50 g.2.2.1 (g.2.1).length g.2.2.2 ((g.2.1).flatMap M9), Blk b2 76 [uI n, sL g.2.2.1 g.2.1.length g.2.2.2], Blk b4 76 [uI 0, sL none 0 0], Blk b3 96 (M7 x)]) (fun g => g.1 ≤ x.o.xs.length ∧ DocOk (kV x.o Y g.1) g.2.1 (cN + g.1)) (fun g => x.o.xs.length - g.1) ((0, M, A, c))
  ⟨Nat.zero_le _, hd⟩ oa sp ?_
 rintro ⟨k, M1, A1, c1⟩ u ⟨hk2, hdk⟩
 dsimp only at hk2 hdk
 refine gw ?_
 refine j0 rfl rfl (p9 rfl rfl) (fun h46 => gw ?_) (fun h46 => gw ?_)
 ·refine j0 rfl rfl (I5 rfl rfl) (fun h51 => ?_) (fun h51 => ?_)
  ·refine e6 (C8 (v := .agg (u9 ⟨true, A4⟩).toArray) rfl (fun _ => by kernel_rfl)) (gw ?_)
   intro b8
   refine j9 rfl (j5 (v := .agg (u9 ⟨true, A4⟩).toArray) rfl rfl (by rw [o6, m0]; exact ce93) (Y1 _) (by rw [o6, m0]; rfl) (gw ?_))
   refine e6 (Qt.dT (I5 rfl rfl) (h51)) ?_
   have hsl := jJ hr h51
   refine gw ?_
   refine e6 (i5 uT cT rfl rfl ow (c9 hS) (by rw [K2]; omega)) (e6 (a8 rfl (H4 (vs := o4 (x.o.ss.getD k A4)) (c9 hS) rT (by rw [k9]; exact ce91) (by rw [k9]; decide) (X6 ow rfl))) (gw ?_))
   refine j9 rfl (zbS (v := .agg (o4 (x.o.ss.getD k A4)).toArray) rfl rfl ((by rw [o6, k9]; exact ce91)) (aF _) (by rw [o6, o6, k9, m0]; decide) (zg5 true A4 (x.o.ss.getD k A4)) (gw ?_))
   refine D1 ([8], [7]) mixed (sk (sk (sd (sk (sk I8))))) (c6 0 rfl (a8 rfl (i4 (vs := [uI n, sL A1 M1.length c1]) aH rT ce76)) (gw ?_))
   refine c6 4 rfl (i5 uT cT rfl rfl ow (c9 hR) (by rw [D5]; omega)) (c6 5 rfl (a8 rfl (A9 (v := uI ↑(x.o.xs.getD k 0)) (c9 hR) oT (F6 ow))) (c6 6 rfl (a8 rfl (i4 (vs := u9 (⟨true, (x.o.ss.getD k A4)⟩ : Go.E.Item)) w5 rT (by rw [m0]; exact ce93))) (P5 7 rfl en (fun w hw => sU n A1 c1 M1 (by have := hdk.len; omega) hdk.nd (x.o.xs.getD k 0) (hlx _ (E6 0 ow)) (⟨true, (x.o.ss.getD k A4)⟩ : Go.E.Item) w hdk.low (Rd.own (Rd.at 1 rfl) w hw)) ?_)))
   rintro v L' ⟨M2, A2, c2, rfl, rfl, hp⟩
   refine F7 8 rfl (R5 rfl cw (by exact ce76) (by rfl) (by rfl) (G0 ?_))
   refine p7 (gw ?_)
   refine ⟨(k + 1, M2, A2, c2), ?_, od, oz, sp⟩
   exact ⟨by show _ ≤ _; dsimp only; omega, hdk.step (nL hY k) (by rw [if_pos h51]; rfl) hp⟩
  ·refine e6 (C8 (v := .agg (u9 ⟨false, A4⟩).toArray) rfl (fun _ => by kernel_rfl)) (gw ?_)
   intro b8
   refine j9 rfl (j5 (v := .agg (u9 ⟨false, A4⟩).toArray) rfl rfl (by rw [o6, m0]; exact ce93) (Y1 _) (by rw [o6, m0]; rfl) (gw ?_))
   refine e6 (Qt.dF (I5 rfl rfl) (h51)) (gw ?_)
   refine D1 ([8], [7]) mixed (sk (sk (sd (sk (sk I8))))) (c6 0 rfl (a8 rfl (i4 (vs := [uI n, sL A1 M1.length c1]) aH rT ce76)) (gw ?_))
   refine c6 4 rfl (i5 uT cT rfl rfl ow (c9 hR) (by rw [D5]; omega)) (c6 5 rfl (a8 rfl (A9 (v := uI ↑(x.o.xs.getD k 0)) (c9 hR) oT (F6 ow))) (c6 6 rfl (a8 rfl (i4 (vs := u9 (⟨false, A4⟩ : Go.E.Item)) w5 rT (by rw [m0]; exact ce93))) (P5 7 rfl en (fun w hw => sU n A1 c1 M1 (by have := hdk.len; omega) hdk.nd (x.o.xs.getD k 0) (hlx _ (E6 0 ow)) (⟨false, A4⟩ : Go.E.Item) w hdk.low (Rd.own (Rd.at 1 rfl) w hw)) ?_)))
   rintro v L' ⟨M2, A2, c2, rfl, rfl, hp⟩
   refine F7 8 rfl (R5 rfl cw (by exact ce76) (by rfl) (by rfl) (G0 ?_))
   refine p7 (gw ?_)
   refine ⟨(k + 1, M2, A2, c2), ?_, od, oz, sp⟩
   exact ⟨by show _ ≤ _; dsimp only; omega, hdk.step (nL hY k) (by rw [if_neg h51]; rfl) hp⟩
 ·refine i7 (c8 (gw ?_))
  refine e6 (a8 rfl (i4 N3 rT (ce76))) (j9 rfl (K9 rfl cw (by exact ce76) (by rfl) (by rfl) (gw ?_)))
  refine a9 (finQ.ret (j7 rfl (i4 aH rT (ce76)) n9) (sx [0]) ?_)
  obtain rfl : k = x.o.xs.length := by omega
  exact ⟨M1, A1, c1, rfl, rfl, hdk⟩
theorem gH (E : Nat → i6) (hEr : ∀ w, Tabs 2 0 w [] → cP 137 #[] w fun v L => ∃ O d, v = sL O 33 d ∧ L = [OwnA 49 32 O 33 d (m9 (H3 E))]) (n : Nat) (A) (c : Nat) (M : Sm) (hl : M.length ≤ 4095) (hn : fE n) (w0) (lw : ∀ y ∈ M, y.1 < 18446744073709551616) (hM : Ro w0 [] (SlA A (M.flatMap M9))) (hT : Tabs 2 0 w0 []) :
  cP 26 #[.agg #[uI n, sL A M.length c]] w0 fun v L => ∃ A1 c1 O d, v = .agg #[iI (s7 n : Int), sL A1 (T7 M).length c1, sL O 33 d] ∧ L = [OwnA 173 33 A1 (T7 M).length c1 ((T7 M).flatMap L5), OwnA 49 32 O 33 d (m9 (H3 E))] := by
 refine co 48 [.cell 2 83] func26 ?_
 refine m6 173 33 (gw ?_)
 intro b1
 refine gw ?_
 intro b2
 refine gw ?_
 refine u7 en (fun w hw => zjj n hn w) (gw ?_)
 refine z9 en (fun w hw => zfP E hEr (s7 n) w (hT.at hw)) ?_
 rintro v L' ⟨O, d, rfl, rfl⟩
 refine gw ?_
 intro b5
 refine j9 rfl (j5 rfl cw (by exact ce83) (by rfl) (by rfl) (gw ?_))
 refine l5 (γ := Nat × Ls × y8 × Nat) (mr 15 32 [6]) (fun g => [(6, iI g.1)]) (fun g => [OwnA 173 33 g.2.2.1 (g.2.1).length g.2.2.2 ((g.2.1).flatMap L5), Blk b5 83 [iI (s7 n : Int), sL g.2.2.1 g.2.1.length g.2.2.2, sL O 33 d], OwnA 49 32 O 33 d (m9 (H3 E)), Blk b2 83 [iI 0, sL none 0 0, sL none 0 0], Blk b1 76 [uI n, sL A M.length c]]) (fun g => g.1 ≤ M.length ∧ g.2.1 = T7 (M.take g.1)) (fun g => M.length - g.1) ((0, [], none, 0))
  ⟨Nat.zero_le _, rfl⟩ oa sp ?_
 rintro ⟨k, out, A1, c1⟩ u ⟨hk, ho⟩
 dsimp only at hk ho
 have hol : out.length ≤ k := by rw [ho, bU, List.length_take]; omega
 refine gw ?_
 refine j0 rfl rfl (p9 rfl rfl) (fun h19 => gw ?_) (fun h19 => gw ?_)
 ·refine D1 ([23, 25], [22]) mixed (sd (sd (sk (sk (sk I8))))) (gw ?_)
  refine c6 5 rfl (i5 uT cT rfl rfl ow (c9 hM) (by rw [I1]; omega)) (c6 6 rfl (z5 uT rfl ce40 rfl (c9 hM) (by rw [I1]; omega)) (c6 7 rfl (a8 rfl (A9 (v := uI ((M.getD k H0).1 : Int)) (c9 hM) oT (bO ow 0 _ rfl))) (gw ?_)))
  refine c6 11 rfl (i5 uT cT rfl rfl ow (c9 hM) (by rw [I1]; omega)) (c6 12 rfl (z5 uT rfl ce40 rfl (c9 hM) (by rw [I1]; omega)) (c6 13 rfl (a8 rfl (A9 (v := uI ((M.getD k H0).1 : Int)) (c9 hM) oT (bO ow 0 _ rfl))) (gw ?_)))
  refine c6 17 rfl (i5 uT cT rfl rfl ow (c9 hM) (by rw [I1]; omega)) (c6 18 rfl (z5 uT rfl ce91 rfl (c9 hM) (by rw [I1]; omega)) (c6 19 rfl (a8 rfl (H4 (vs := o4 (M.getD k H0).2) (c9 hM) rT (by rw [k9]; exact ce91) (by rw [k9]; decide) (fun j v hj => by have q := bO (k := k) ow (1 + j) v (yS _ j v hj); rw [← Nat.add_assoc] at q; exact q))) (I7 20 rfl en (fun w hw => zg7 (M.getD k H0).1 (tQ lw ow) (M.getD k H0).2 w (hT.at hw)) (c6 21 rfl (n8 (F5 (vs := [uI ((M.getD k H0).1 : Int), hv ((M.getD k H0).1, K3 (R6 (M.getD k H0).1 (M.getD k H0).2)).2]) (pls := #[(0, 1), (1, 32)]) uT (fun w => by kernel_rfl) ze173 rfl ⟨rfl, (by show some (1, 32) = some (1, _); rw [v9]), trivial⟩ (by rw [List.flatMap_cons, List.flatMap_singleton]; show 33 = ([uI ((M.getD k H0).1 : Int)] ++ vl (hv ((M.getD k H0).1, K3 (R6 (M.getD k H0).1 (M.getD k H0).2)).2)).length; rw [List.length_append, v9]; rfl)) (show _ = Value.agg (L5 ((M.getD k H0).1, K3 (R6 (M.getD k H0).1 (M.getD k H0).2))).toArray by rw [List.flatMap_cons, List.flatMap_singleton, mQ]; rfl)) ?_))))
  refine aO 22 rfl (m5 (v := .agg (L5 ((M.getD k H0).1, K3 (R6 (M.getD k H0).1 (M.getD k H0).2))).toArray) uT elem173 dc rfl (oZ _) (fun g44 => (G0 ?_)))
  refine V5 23 rfl (G1 (news := L5 ((M.getD k H0).1, K3 (R6 (M.getD k H0).1 (M.getD k H0).2))) uT elem173 rfl rfl (j8 (cs := L5 ((M.getD k H0).1, K3 (R6 (M.getD k H0).1 (M.getD k H0).2))) w5) (by rw [I9]) (lN _) kx od (fun O1 d1 => (G0 (gw ?_))))
  refine F7 25 rfl (R4 rfl cw cT rfl rfl (Nat.le_of_ble_eq_true rfl) (G0 ?_))
  refine p7 (gw ?_)
  refine ⟨(k + 1, out ++ [((M.getD k H0).1, K3 (R6 (M.getD k H0).1 (M.getD k H0).2))], O1, d1), ?_, od, oz, (by dsimp only; simp only [s9, Y0]; exact sp)⟩
  exact ⟨by show _ ≤ _; dsimp only; omega, by dsimp only; rw [zha h19, ho]⟩
 ·refine i7 (c8 (gw ?_))
  refine e6 (a8 rfl (i4 N3 rT (ce83))) (j9 rfl (R5 rfl cw (by exact ce83) (by rfl) (by rfl) (gw ?_)))
  refine a9 (finQ.ret (j7 rfl (i4 tV rT (ce83)) n9) (sx [0, 1]) ?_)
  obtain rfl : k = M.length := by omega
  rw [List.take_length] at ho
  subst ho
  exact ⟨A1, c1, O, d, rfl, rfl⟩
theorem sE (E : Nat → i6) (hE : ∀ h, E (h + 1) = F8 (h + 1) (E h) (E h)) (gh : Nat) (hh : gh ≤ 32) (ls : Ls) (A) (c : Nat) (O) (d : Nat) (B) (e : Nat) (ds : Sd) (hd : ∀ a ∈ ds, N0 gh a) (hn : ds.length ≤ 64) (w0) (hlen : ls.length ≤ 4096) (lw : ∀ x ∈ ls, x.1 < 18446744073709551616) (hL : Ro w0 [] (SlA A (ls.flatMap L5))) (hO : Ro w0 [] (SlA O (m9 (H3 E)))) (hR : Ro w0 [] (SlA B (iQ ds))) (hT : Tabs 2 0 w0 []) :
  cP 92 #[.agg #[iI gh, sL A ls.length c, sL O 33 d], sL B ds.length e] w0 fun v L => ∃ P q, v = sL P ds.length q ∧ L = [OwnA 49 32 P ds.length q (m9 ((ds).map (fun a => s5 (fL E ls) a.1 a.2)))] := by
 refine co 29 [.tmp 4] func92 ?_
 refine gw ?_
 intro b2
 refine gw ?_
 refine m6 49 32 ?_
 refine l5 (γ := Nat × y8 × Nat) (mr 5 23 []) (fun g => [(6, iI g.1), (5, sL g.2.1 g.1 g.2.2)]) (fun g => [OwnA 49 32 g.2.1 g.1 g.2.2 (m9 ((ds.take g.1).map (fun a => s5 (fL E ls) a.1 a.2))), Blk b2 83 (vl (.agg #[iI gh, sL A ls.length c, sL O 33 d]))]) (fun g => g.1 ≤ ds.length) (fun g => ds.length - g.1) ((0, none, 0))
  (Nat.zero_le _) oa sr ?_
 rintro ⟨k, P, q⟩ u hk
 dsimp only at hk
 show TC _ _ _ (puts [(6, iI k), (5, sL P k q)] (scr _ u _)) [OwnA 49 32 P k q (m9 ((ds.take k).map (fun a => s5 (fL E ls) a.1 a.2))), Blk b2 83 (vl (.agg #[iI gh, sL A ls.length c, sL O 33 d]))]
 refine gw ?_
 refine j0 rfl rfl (p9 rfl rfl) (fun h10 => gw ?_) (fun h10 => gw ?_)
 ·refine D1 ([14], [13]) mixed (sd (sk I8)) (gw ?_)
  refine c6 1 rfl (a8 rfl (i4 N3 rT (ce83))) (gw ?_)
  refine c6 4 rfl (i5 uT cT rfl rfl ow (c9 hR) (by rw [W4]; omega)) (c6 5 rfl (z5 uT rfl ce3 rfl (c9 hR) (by rw [W4]; omega)) (c6 6 rfl (a8 rfl (A9 (v := iI ((ds.getD k (0, 0)).1 : Int)) (c9 hR) oT ((CD ow).1))) (gw ?_)))
  refine c6 9 rfl (i5 uT cT rfl rfl ow (c9 hR) (by rw [W4]; omega)) (c6 10 rfl (z5 uT rfl ce40 rfl (c9 hR) (by rw [W4]; omega)) (c6 11 rfl (a8 rfl (A9 (v := uI ((ds.getD k (0, 0)).2 : Int)) (c9 hR) oT ((CD ow).2))) (I7 12 rfl en (fun w hw => jK E hE gh hh ls A c O d (ds.getD k (0, 0)).1 (ds.getD k (0, 0)).2 (hd _ (E6 (0, 0) ow)) w hlen lw (Rd.ro hL w hw) (Rd.ro hO w hw) (hT.at hw)) ?_)))
  refine aO 13 rfl (m5 (v := hv (s5 (fL E ls) (ds.getD k (0, 0)).1 (ds.getD k (0, 0)).2)) uT elem49 dc rfl (v9 _) (fun g26 => (G0 ?_)))
  refine V5 14 rfl (G1 (news := L8 (s5 (fL E ls) (ds.getD k (0, 0)).1 (ds.getD k (0, 0)).2)) uT elem49 rfl rfl (j8 (cs := L8 (s5 (fL E ls) (ds.getD k (0, 0)).1 (ds.getD k (0, 0)).2)) w5) (by rw [l6]) (List.all_eq_true.1 (Y4 _)) kx ow (fun O3 d3 => (G0 (gw ?_))))
  refine p7 (gw ?_)
  exact ⟨(k + 1, O3, d3), od, od, oz, (by dsimp only; rw [zfp (f := fun a => s5 (fL E ls) a.1 a.2) ow]; exact sp)⟩
 ·refine i7 (c8 (gw ?_))
  refine a9 (D7 (sx [0]) ?_)
  obtain rfl : k = ds.length := by omega
  rw [List.take_length]
  exact ⟨P, q, rfl, rfl⟩
theorem J69 : p8 prog 69 := ⟨_, func69, by kernel_rfl, rfl⟩
theorem zcT (f : Nat) (hf : f < 18446744073709551616) (m : Int) (h : ¬ (1 ≤ m ∧ m ≤ 256 ∧ f + m.toNat ≤ 4294967296)) (w) : cR 147 #[iI 32, uI f, iI m] w (.bool false) := by
 by_cases hm : m < 1 ∨ 256 < m
 ·exact AA 32 f m hm dc w
 ·obtain ⟨n, rfl⟩ : ∃ n : Nat, m = (n : Int) := ⟨m.toNat, by omega⟩
  exact qT (z := 32) hf (.inr (.inr ⟨32, rfl, by decide, fun k => h ⟨by omega, by omega, by have := k.2.2; rw [show (2 : Nat) ^ 32 = 4294967296 from rfl] at this; omega⟩⟩)) w
theorem zb9 (q : ReqB) (hk : q.kind = 1) (w0) :
  cP 86 #[.agg (bL q).toArray] w0 fun v L => v = sL q.A q.xs.length q.c ∧ L = [] := by
 refine co 35 [.tmp 2] func86 ?_
 refine gw ?_
 intro b1
 refine gw ?_
 refine e6 (Qt.dT (I5 rfl rfl) (hk)) (gw ?_)
 exact tR
theorem zb8 (q : ReqB) (hk : ¬ q.kind = 1) (hq : ¬ (q.kind = 2 ∧ 1 ≤ q.many ∧ q.many ≤ 256 ∧ q.first + q.many.toNat ≤ 4294967296)) (hf : q.first < 18446744073709551616) (w0) :
  cP 86 #[.agg (bL q).toArray] w0 fun v L => v = sL none 0 0 ∧ L = [OwnA 40 1 none 0 0 []] := by
 refine co 35 [.tmp 2] func86 ?_
 refine m6 40 1 (gw ?_)
 intro b1
 refine gw ?_
 refine e6 (Qt.dF (I5 rfl rfl) (hk)) (gw ?_)
 refine j0 rfl rfl (I5 rfl rfl) (fun h12 => gw ?_) (fun h12 => gw ?_)
 ·refine aK en (fun w hw => zcT q.first hf q.many (fun k => hq ⟨h12, k⟩) w) (gw ?_)
  exact a9 (D7 (sx [1]) ⟨rfl, rfl⟩)
 ·exact a9 (D7 (sx [1]) ⟨rfl, rfl⟩)
theorem zca (q : ReqB) (hk : q.kind = 2) (m : Nat) (hm : q.many = (m : Int)) (h1 : 1 ≤ m) (h2 : m ≤ 256) (hf : q.first + m ≤ 4294967296) (w0) :
  cP 86 #[.agg (bL q).toArray] w0 fun v L => ∃ O d, v = sL O m d ∧ L = [OwnA 40 1 O m d (w6 ((List.range m).map (q.first + ·)))] := by
 refine co 35 [.tmp 2] func86 ?_
 refine m6 40 1 (gw ?_)
 intro b1
 refine gw ?_
 refine e6 (Qt.dF (I5 rfl rfl) ow) (gw ?_)
 refine e6 (Qt.dT (I5 rfl rfl) (hk)) (o8 ?_)
 refine E8 rfl rfl rfl (x9 uT rfl ce40 rfl) (E8 rfl rfl rfl (a8 rfl (i9 (v := uI (q.first : Int)) w5 oT (rfl))) (E8 rfl rfl rfl (x9 uT rfl ce3 rfl) (E8 rfl rfl rfl (a8 rfl (i9 (v := iI m) w5 oT (by rw [← hm]; rfl))) (aK en (fun w hw => (by have h := pP 32 q.first m dc ow h1 h2 w; rw [decide_eq_true (show q.first + m ≤ 2 ^ 32 from hf)] at h; exact h : cR 147 #[iI 32, uI (q.first : Int), iI m] w (.bool true))) (gw ?_)))))
 refine l5 (γ := Nat × y8 × Nat) (mr 20 14 [3, 4]) (fun g => [(4, iI g.1), (3, sL g.2.1 g.1 g.2.2)]) (fun g => [OwnA 40 1 g.2.1 g.1 g.2.2 (w6 ((List.range g.1).map (q.first + ·))), Blk b1 105 (bL q)]) (fun g => g.1 ≤ m) (fun g => m - g.1) ((0, none, 0))
  (Nat.zero_le _) oa sp ?_
 rintro ⟨k, O, d⟩ u hkk
 dsimp only at hkk
 refine c8 (c8 (c7 (o8 ?_)))
 refine e6 (x9 uT rfl ce3 rfl) (e6 (a8 rfl (i9 (v := iI m) N3 oT (by rw [← hm]; rfl))) (j0 rfl rfl (p9 rfl rfl) (fun h23 => gw ?_) (fun h23 => gw ?_)))
 ·refine e6 (r8 uT uT rfl km) (e6 (v4 rfl rfl km) (z7 (m5 (v := uI ↑(q.first + k)) uT elem40 dc rfl rfl (fun g32 => (z7 (G1 (news := [uI ↑(q.first + k)]) uT elem40 rfl rfl (j8 w5) rfl (by intro u hu; rw [List.mem_singleton.1 hu]; rfl) kx ow (fun O' d' => (gw ?_))))))))
  exact ⟨(k + 1, O', d'), od, od, oz, (by dsimp only; rw [← AQ]; exact sd sr)⟩
 ·refine i7 (c8 (gw ?_))
  refine a9 (D7 (sx [0]) ?_)
  obtain rfl : k = m := by omega
  exact ⟨O, d, rfl, rfl⟩
theorem zib (q : ReqB) (hk : ¬ q.kind = 1) (hf : q.first < 18446744073709551616) (l : List Nat) (hl : l = fG q.kind q.first q.many q.xs) (w0) : cP 86 #[.agg (bL q).toArray] w0 fun v L => ∃ O d, v = sL O l.length d ∧ L = [OwnA 40 1 O l.length d (w6 l)] := by
 subst hl
 unfold fG
 rw [if_neg hk]
 by_cases hq : q.kind = 2 ∧ 1 ≤ q.many ∧ q.many ≤ 256 ∧ q.first + q.many.toNat ≤ 4294967296
 ·rw [if_pos hq, List.length_map, List.length_range]
  exact zca q hq.1 q.many.toNat ow ow ow hq.2.2.2 w0
 ·rw [if_neg hq]
  exact (zb8 q hk hq hf w0).mono fun e w' ⟨v, L', h1, h2, h3, h4⟩ => ⟨v, L', h1, h2, none, 0, h3, h4⟩
theorem lS (x : OrdA) (hss : x.o.ss.length ≤ 65536) (hxx : x.o.xs.length ≤ 65536) (w0) (lw : ∀ y ∈ x.o.xs, y < 18446744073709551616) (hR : Ro w0 [] (SlA x.A (w6 x.o.xs))) (hS : Ro w0 [] (SlA x.B (x.o.ss.flatMap o4))) : cR 69 #[.agg (M7 x).toArray] w0 (.bool (decide (A7 x.o))) := by
 refine cQ ?_
 refine co 89 [.tmp 2] func69 ?_
 refine gw ?_
 intro b1
 refine gw ?_
 refine j0 rfl rfl (I5 rfl rfl) (fun h6 => gw ?_) (fun h6 => gw ?_)
 ·refine j0 rfl rfl (z6 (b := 0) rfl rfl) (fun h10 => gw ?_) (fun h10 => gw ?_)
  ·refine D9 rfl rfl rfl (z6 (b := 0) rfl rfl) (fun h15 => gw ?_) (fun h15 => gw ?_)
   ·refine D9 rfl rfl rfl (M0 (b := 0) rfl rfl) (fun h20 => gw ?_) (fun h20 => gw ?_)
    ·refine D9 rfl rfl rfl (bM (b := 4294967296) rfl rfl) (fun h25 => gw ?_) (fun h25 => gw ?_)
     ·refine a9 (fR ?_)
      exact ⟨(dT (p := A7 x.o) (.inr (.inr ⟨h6, h10, h15, ⟨by omega, by omega⟩⟩))).symm, rfl⟩
     ·refine a9 (fR ?_)
      refine ⟨(dF (p := A7 x.o) fun h => ?_).symm, rfl⟩
      rcases h with ⟨a1, a2, a3, a4, a5⟩ | ⟨a1, a2, a3, a4⟩ | ⟨a1, a2, a3, a4⟩ <;> first | omega | exact absurd a3 hi | (have c1 := a4.1; have c2 := a4.2; omega)
    ·refine a9 (fR ?_)
     refine ⟨(dF (p := A7 x.o) fun h => ?_).symm, rfl⟩
     rcases h with ⟨a1, a2, a3, a4, a5⟩ | ⟨a1, a2, a3, a4⟩ | ⟨a1, a2, a3, a4⟩ <;> first | omega | exact absurd a3 hi | (have c1 := a4.1; have c2 := a4.2; omega)
   ·refine a9 (fR ?_)
    refine ⟨(dF (p := A7 x.o) fun h => ?_).symm, rfl⟩
    rcases h with ⟨a1, a2, a3, a4, a5⟩ | ⟨a1, a2, a3, a4⟩ | ⟨a1, a2, a3, a4⟩ <;> first | omega | exact absurd a3 hi | (have c1 := a4.1; have c2 := a4.2; omega)
  ·refine a9 (fR ?_)
   refine ⟨(dF (p := A7 x.o) fun h => ?_).symm, rfl⟩
   rcases h with ⟨a1, a2, a3, a4, a5⟩ | ⟨a1, a2, a3, a4⟩ | ⟨a1, a2, a3, a4⟩ <;> first | omega | exact absurd a3 hi | (have c1 := a4.1; have c2 := a4.2; omega)
 ·refine j0 rfl rfl (dG rfl rfl) (fun h29 => gw ?_) (fun h29 => gw ?_)
  ·refine D9 rfl rfl rfl (dG rfl rfl) (fun h33 => gw ?_) (fun h33 => gw ?_)
   ·refine a9 (fR ?_)
    refine ⟨(dF (p := A7 x.o) fun h => ?_).symm, rfl⟩
    rcases h with ⟨a1, a2, a3, a4, a5⟩ | ⟨a1, a2, a3, a4⟩ | ⟨a1, a2, a3, a4⟩ <;> first | omega | exact absurd a3 hi | (have c1 := a4.1; have c2 := a4.2; omega)
   ·refine D9 rfl rfl rfl (C7 (b := 0) rfl rfl) (fun h38 => gw ?_) (fun h38 => gw ?_)
    ·refine a9 (fR ?_)
     refine ⟨(dF (p := A7 x.o) fun h => ?_).symm, rfl⟩
     rcases h with ⟨a1, a2, a3, a4, a5⟩ | ⟨a1, a2, a3, a4⟩ | ⟨a1, a2, a3, a4⟩ <;> first | omega | exact absurd a3 hi | (have c1 := a4.1; have c2 := a4.2; omega)
    ·by_cases hi : idxOk 32 x.o.xs
     ·refine aK en (fun w hw => (by have h := U2 32 dc x.A x.c x.o.xs w lw (Rd.ro hR w hw); rw [decide_eq_true hi] at h; exact h : cR 87 #[iI 32, sL x.A x.o.xs.length x.c] w (.bool true))) (gw ?_)
      refine j0 rfl rfl (I5 rfl rfl) (fun h48 => gw ?_) (fun h48 => gw ?_)
      ·refine j0 rfl rfl (z6 (b := 0) rfl rfl) (fun h52 => gw ?_) (fun h52 => gw ?_)
       ·refine a9 (fR ?_)
        exact ⟨(dT (p := A7 x.o) (.inr (.inl ⟨h48, by omega, hi, h52⟩))).symm, rfl⟩
       ·refine a9 (fR ?_)
        refine ⟨(dF (p := A7 x.o) fun h => ?_).symm, rfl⟩
        rcases h with ⟨a1, a2, a3, a4, a5⟩ | ⟨a1, a2, a3, a4⟩ | ⟨a1, a2, a3, a4⟩ <;> first | omega | exact absurd a3 hi | (have c1 := a4.1; have c2 := a4.2; omega)
      ·refine l5 (γ := Nat) (mr 53 29 [2, 3]) (fun k => [(3, iI k)]) (fun _ => _) (fun k => k ≤ x.o.ss.length ∧ ∀ j, j < k → mE (x.o.ss.getD j A4).ep ∧ (x.o.ss.getD j A4).ep = (x.o.ss.getD 0 A4).ep) (fun k => x.o.ss.length - k) (0)
        ⟨Nat.zero_le _, fun j h => absurd h (Nat.not_lt_zero _)⟩ oa sr ?_
       rintro k u ⟨hk, hq⟩
       refine gw ?_
       refine j0 rfl rfl (p9 rfl rfl) (fun h57 => gw ?_) (fun h57 => gw ?_)
       ·refine dw ([], []) (gw ?_)
        refine c6 3 rfl (i5 uT cT rfl rfl ow (c9 hS) (by rw [K2]; omega)) ?_
        refine c6 4 rfl (z5 uT rfl ce40 rfl (c9 hS) (by rw [K2]; omega)) ?_
        refine c6 5 rfl (a8 rfl (A9 (v := uI ((x.o.ss.getD k A4).ep : Int)) (c9 hS) oT (X6 ow rfl 0 _ rfl))) ?_
        by_cases hep : mE (x.o.ss.getD k A4).ep
        ·refine I7 6 rfl en (fun w hw => (by have h := jI (x.o.ss.getD k A4).ep (x.o.ss.getD k A4).lt w; rw [decide_eq_true hep] at h; exact h)) (gw ?_)
         refine C2 12 rfl rfl (i5 uT cT rfl rfl ow (c9 hS) (by rw [K2]; omega)) ?_
         refine C2 13 rfl rfl (z5 uT rfl ce40 rfl (c9 hS) (by rw [K2]; omega)) ?_
         refine C2 14 rfl rfl (a8 rfl (A9 (v := uI ((x.o.ss.getD k A4).ep : Int)) (c9 hS) oT (X6 ow rfl 0 _ rfl))) (gw ?_)
         refine C2 17 rfl rfl (i5 (i := 0) uT cT rfl rfl ow (c9 hS) (by rw [K2]; omega)) ?_
         refine C2 18 rfl rfl (z5 uT rfl ce40 rfl (c9 hS) (by rw [K2]; omega)) ?_
         refine C2 19 rfl rfl (a8 rfl (A9 (v := uI ((x.o.ss.getD 0 A4).ep : Int)) (c9 hS) oT (X6 ow rfl 0 _ rfl))) ?_
         refine dN (k := 20) rfl kr kr kr rfl rfl rfl (C7 rfl rfl) (fun h80 => gw ?_) (fun h80 => gw ?_)
         ·refine p7 (gw ?_)
          refine a9 (fR ?_)
          refine ⟨(dF (p := A7 x.o) fun h => ?_).symm, rfl⟩
          rcases h with ⟨a1, a2, a3, a4, a5⟩ | ⟨a1, a2, a3, a4⟩ | ⟨a1, a2, a3, a4⟩
          ·have q := a5 _ (AE h57)
           first | exact hep q.1 | exact h80 q.2
          ·omega
          ·omega
         ·refine p7 (gw ?_)
          refine ⟨k + 1, ?_, od, oz, sr⟩
          exact ⟨by show _ ≤ _; omega, fun j hj => (Nat.lt_or_ge j k).elim (hq j) (fun h => by (obtain rfl : j = k := by omega); exact ⟨hep, Decidable.not_not.1 h80⟩)⟩
        ·refine I7 6 rfl en (fun w hw => (by have h := jI (x.o.ss.getD k A4).ep (x.o.ss.getD k A4).lt w; rw [decide_eq_false hep] at h; exact h)) (gw ?_)
         refine p7 (gw ?_)
         refine a9 (fR ?_)
         refine ⟨(dF (p := A7 x.o) fun h => ?_).symm, rfl⟩
         rcases h with ⟨a1, a2, a3, a4, a5⟩ | ⟨a1, a2, a3, a4⟩ | ⟨a1, a2, a3, a4⟩
         ·have q := a5 _ (AE h57)
          first | exact hep q.1 | exact h80 q.2
         ·omega
         ·omega
       ·refine i7 (c8 (gw ?_))
        refine j0 rfl rfl (z6 rfl rfl) (fun h88 => gw ?_) (fun h88 => gw ?_)
        ·refine a9 (fR ?_)
         refine ⟨(dT (p := A7 x.o) (.inl ⟨by omega, by omega, hi, h88, fun s hs => ?_⟩)).symm, rfl⟩
         obtain ⟨j, hj, rfl⟩ := List.mem_iff_getElem.1 hs
         have := hq j ow
         simpa [List.getD, hj] using this
        ·refine a9 (fR ?_)
         refine ⟨(dF (p := A7 x.o) fun h => ?_).symm, rfl⟩
         rcases h with ⟨a1, a2, a3, a4, a5⟩ | ⟨a1, a2, a3, a4⟩ | ⟨a1, a2, a3, a4⟩ <;> first | omega | exact absurd a3 hi | (have c1 := a4.1; have c2 := a4.2; omega)
     ·refine aK en (fun w hw => (by have h := U2 32 dc x.A x.c x.o.xs w lw (Rd.ro hR w hw); rw [decide_eq_false hi] at h; exact h : cR 87 #[iI 32, sL x.A x.o.xs.length x.c] w (.bool false))) (gw ?_)
      refine a9 (fR ?_)
      refine ⟨(dF (p := A7 x.o) fun h => ?_).symm, rfl⟩
      rcases h with ⟨a1, a2, a3, a4, a5⟩ | ⟨a1, a2, a3, a4⟩ | ⟨a1, a2, a3, a4⟩ <;> first | omega | exact absurd a3 hi | (have c1 := a4.1; have c2 := a4.2; omega)
  ·refine D9 rfl rfl rfl (C7 (b := 0) rfl rfl) (fun h38 => gw ?_) (fun h38 => gw ?_)
   ·refine a9 (fR ?_)
    refine ⟨(dF (p := A7 x.o) fun h => ?_).symm, rfl⟩
    rcases h with ⟨a1, a2, a3, a4, a5⟩ | ⟨a1, a2, a3, a4⟩ | ⟨a1, a2, a3, a4⟩ <;> first | omega | exact absurd a3 hi | (have c1 := a4.1; have c2 := a4.2; omega)
   ·by_cases hi : idxOk 32 x.o.xs
    ·refine aK en (fun w hw => (by have h := U2 32 dc x.A x.c x.o.xs w lw (Rd.ro hR w hw); rw [decide_eq_true hi] at h; exact h : cR 87 #[iI 32, sL x.A x.o.xs.length x.c] w (.bool true))) (gw ?_)
     refine j0 rfl rfl (I5 rfl rfl) (fun h48 => gw ?_) (fun h48 => gw ?_)
     ·refine j0 rfl rfl (z6 (b := 0) rfl rfl) (fun h52 => gw ?_) (fun h52 => gw ?_)
      ·refine a9 (fR ?_)
       exact ⟨(dT (p := A7 x.o) (.inr (.inl ⟨h48, by omega, hi, h52⟩))).symm, rfl⟩
      ·refine a9 (fR ?_)
       refine ⟨(dF (p := A7 x.o) fun h => ?_).symm, rfl⟩
       rcases h with ⟨a1, a2, a3, a4, a5⟩ | ⟨a1, a2, a3, a4⟩ | ⟨a1, a2, a3, a4⟩ <;> first | omega | exact absurd a3 hi | (have c1 := a4.1; have c2 := a4.2; omega)
     ·refine l5 (γ := Nat) (mr 53 29 [2, 3]) (fun k => [(3, iI k)]) (fun _ => _) (fun k => k ≤ x.o.ss.length ∧ ∀ j, j < k → mE (x.o.ss.getD j A4).ep ∧ (x.o.ss.getD j A4).ep = (x.o.ss.getD 0 A4).ep) (fun k => x.o.ss.length - k) (0)
       ⟨Nat.zero_le _, fun j h => absurd h (Nat.not_lt_zero _)⟩ oa sr ?_
      rintro k u ⟨hk, hq⟩
      refine gw ?_
      refine j0 rfl rfl (p9 rfl rfl) (fun h57 => gw ?_) (fun h57 => gw ?_)
      ·refine dw ([], []) (gw ?_)
       refine c6 3 rfl (i5 uT cT rfl rfl ow (c9 hS) (by rw [K2]; omega)) ?_
       refine c6 4 rfl (z5 uT rfl ce40 rfl (c9 hS) (by rw [K2]; omega)) ?_
       refine c6 5 rfl (a8 rfl (A9 (v := uI ((x.o.ss.getD k A4).ep : Int)) (c9 hS) oT (X6 ow rfl 0 _ rfl))) ?_
       by_cases hep : mE (x.o.ss.getD k A4).ep
       ·refine I7 6 rfl en (fun w hw => (by have h := jI (x.o.ss.getD k A4).ep (x.o.ss.getD k A4).lt w; rw [decide_eq_true hep] at h; exact h)) (gw ?_)
        refine C2 12 rfl rfl (i5 uT cT rfl rfl ow (c9 hS) (by rw [K2]; omega)) ?_
        refine C2 13 rfl rfl (z5 uT rfl ce40 rfl (c9 hS) (by rw [K2]; omega)) ?_
        refine C2 14 rfl rfl (a8 rfl (A9 (v := uI ((x.o.ss.getD k A4).ep : Int)) (c9 hS) oT (X6 ow rfl 0 _ rfl))) (gw ?_)
        refine C2 17 rfl rfl (i5 (i := 0) uT cT rfl rfl ow (c9 hS) (by rw [K2]; omega)) ?_
        refine C2 18 rfl rfl (z5 uT rfl ce40 rfl (c9 hS) (by rw [K2]; omega)) ?_
        refine C2 19 rfl rfl (a8 rfl (A9 (v := uI ((x.o.ss.getD 0 A4).ep : Int)) (c9 hS) oT (X6 ow rfl 0 _ rfl))) ?_
        refine dN (k := 20) rfl kr kr kr rfl rfl rfl (C7 rfl rfl) (fun h80 => gw ?_) (fun h80 => gw ?_)
        ·refine p7 (gw ?_)
         refine a9 (fR ?_)
         refine ⟨(dF (p := A7 x.o) fun h => ?_).symm, rfl⟩
         rcases h with ⟨a1, a2, a3, a4, a5⟩ | ⟨a1, a2, a3, a4⟩ | ⟨a1, a2, a3, a4⟩
         ·have q := a5 _ (AE h57)
          first | exact hep q.1 | exact h80 q.2
         ·omega
         ·omega
        ·refine p7 (gw ?_)
         refine ⟨k + 1, ?_, od, oz, sr⟩
         exact ⟨by show _ ≤ _; omega, fun j hj => (Nat.lt_or_ge j k).elim (hq j) (fun h => by (obtain rfl : j = k := by omega); exact ⟨hep, Decidable.not_not.1 h80⟩)⟩
       ·refine I7 6 rfl en (fun w hw => (by have h := jI (x.o.ss.getD k A4).ep (x.o.ss.getD k A4).lt w; rw [decide_eq_false hep] at h; exact h)) (gw ?_)
        refine p7 (gw ?_)
        refine a9 (fR ?_)
        refine ⟨(dF (p := A7 x.o) fun h => ?_).symm, rfl⟩
        rcases h with ⟨a1, a2, a3, a4, a5⟩ | ⟨a1, a2, a3, a4⟩ | ⟨a1, a2, a3, a4⟩
        ·have q := a5 _ (AE h57)
         first | exact hep q.1 | exact h80 q.2
        ·omega
        ·omega
      ·refine i7 (c8 (gw ?_))
       refine j0 rfl rfl (z6 rfl rfl) (fun h88 => gw ?_) (fun h88 => gw ?_)
       ·refine a9 (fR ?_)
        refine ⟨(dT (p := A7 x.o) (.inl ⟨by omega, by omega, hi, h88, fun s hs => ?_⟩)).symm, rfl⟩
        obtain ⟨j, hj, rfl⟩ := List.mem_iff_getElem.1 hs
        have := hq j ow
        simpa [List.getD, hj] using this
       ·refine a9 (fR ?_)
        refine ⟨(dF (p := A7 x.o) fun h => ?_).symm, rfl⟩
        rcases h with ⟨a1, a2, a3, a4, a5⟩ | ⟨a1, a2, a3, a4⟩ | ⟨a1, a2, a3, a4⟩ <;> first | omega | exact absurd a3 hi | (have c1 := a4.1; have c2 := a4.2; omega)
    ·refine aK en (fun w hw => (by have h := U2 32 dc x.A x.c x.o.xs w lw (Rd.ro hR w hw); rw [decide_eq_false hi] at h; exact h : cR 87 #[iI 32, sL x.A x.o.xs.length x.c] w (.bool false))) (gw ?_)
     refine a9 (fR ?_)
     refine ⟨(dF (p := A7 x.o) fun h => ?_).symm, rfl⟩
     rcases h with ⟨a1, a2, a3, a4, a5⟩ | ⟨a1, a2, a3, a4⟩ | ⟨a1, a2, a3, a4⟩ <;> first | omega | exact absurd a3 hi | (have c1 := a4.1; have c2 := a4.2; omega)
theorem oL (x : OrdA) (hss : x.o.ss.length ≤ 65536) (hxx : x.o.xs.length ≤ 65536) (n : Nat) (w0) (lw : ∀ y ∈ x.o.xs, y < 18446744073709551616) (hR : Ro w0 [] (SlA x.A (w6 x.o.xs))) (hS : Ro w0 [] (SlA x.B (x.o.ss.flatMap o4))) : cR 70 #[.agg (M7 x).toArray, uI n] w0 (.bool (decide (T6 x.o n))) := by
 refine cQ (co 22 [.tmp 4] func70 ?_)
 refine gw ?_
 intro b2
 refine gw ?_
 refine l5 (γ := Nat) (mr 4 16 []) (fun k => [(5, iI k)]) (fun _ => _) (fun k => k ≤ x.o.xs.length ∧ ∀ j, j < k → x.o.xs.getD j 0 < n) (fun k => x.o.xs.length - k) (0)
  ⟨Nat.zero_le _, fun j h => absurd h (Nat.not_lt_zero _)⟩ oa sr ?_
 rintro k u ⟨hk, hq⟩
 refine gw ?_
 refine j0 rfl rfl (p9 rfl rfl) (fun h10 => gw ?_) (fun h10 => gw ?_)
 ·refine e6 (i5 uT cT rfl rfl ow (c9 hR) (by rw [D5]; omega)) (e6 (a8 rfl (A9 (v := uI ↑(x.o.xs.getD k 0)) (c9 hR) oT (F6 ow))) (gw ?_))
  refine j0 rfl rfl (T0 rfl rfl) (fun h19 => gw ?_) (fun h19 => gw ?_)
  ·refine a9 (fR ?_)
   exact ⟨(dF (p := T6 x.o n) (fun h => by have := h.2 _ (E6 0 h10); omega)).symm, rfl⟩
  ·refine ⟨k + 1, ?_, od, oz, sr⟩
   exact ⟨by show _ ≤ _; omega, fun j hj => (Nat.lt_or_ge j k).elim (hq j) (fun h => by (obtain rfl : j = k := by omega); omega)⟩
 ·refine i7 (c8 (gw ?_))
  refine e6 (a8 rfl (i4 (vs := M7 x) w5 rT ce96)) ?_
  by_cases hr : A7 x.o
  ·refine u7 en (fun w hw => (by have h := lS x hss hxx w lw (Rd.ro hR w hw) (Rd.ro hS w hw); rw [decide_eq_true hr] at h; exact h : cR 69 #[.agg (M7 x).toArray] w (.bool true))) (gw ?_)
   refine a9 (fR ?_)
   exact ⟨(dT (p := T6 x.o n) ⟨hr, fun y hy => by obtain ⟨j, hj, rfl⟩ := List.mem_iff_getElem.1 hy; have := hq j ow; simpa [List.getD, hj] using this⟩).symm, rfl⟩
  ·refine u7 en (fun w hw => (by have h := lS x hss hxx w lw (Rd.ro hR w hw) (Rd.ro hS w hw); rw [decide_eq_false hr] at h; exact h : cR 69 #[.agg (M7 x).toArray] w (.bool false))) (gw ?_)
   refine a9 (fR ?_)
   exact ⟨(dF (p := T6 x.o n) (fun h => hr h.1)).symm, rfl⟩
end Go.Proofs.YtgdjcmehlhebdaaGreatDoor
namespace Go.E
theorem EW {a gh : Nat} (h : a < 2 ^ gh) : ∀ x ∈ l4 a gh, N0 gh x := by
 have : ∀ k, k ≤ gh → ∀ x ∈ l4 a k, N0 gh x := by
  intro k
  induction k with
  | zero => intro _ x hx; cases hx
  | succ k ih =>
   intro hk x hx
   rw [l4] at hx
   split at hx
   ·rename_i hb
    rcases List.mem_append.1 hx with h1 | h1
    ·exact ih ow x h1
    ·rw [List.mem_singleton.1 h1]; exact AF h ow hb
   ·exact ih ow x hx
 exact this gh (Nat.le_refl _)
theorem EY {b gh : Nat} (h : b < 2 ^ gh) : ∀ x ∈ j6 b gh, N0 gh x := by
 have : ∀ k, k ≤ gh → ∀ x ∈ j6 b k, N0 gh x := by
  intro k
  induction k with
  | zero => intro _ x hx; cases hx
  | succ k ih =>
   intro hk x hx
   rw [j6] at hx
   split at hx
   ·rename_i hb
    rcases List.mem_append.1 hx with h1 | h1
    ·exact ih ow x h1
    ·rw [List.mem_singleton.1 h1]; exact xM h ow hb
   ·exact ih ow x hx
 exact this gh (Nat.le_refl _)
def pX (h : Nat) (l : List Nat) (err : Int) (its : List Item) : Prop := err ≠ 0 ∨ ¬ idxOk h l ∨ its.length ≠ l.length
instance (h : Nat) (l : List Nat) (err : Int) (its : List Item) : Decidable (pX h l err its) := inferInstanceAs (Decidable (_ ∨ _ ∨ _))
theorem tP {h : Nat} {l : List Nat} {err : Int} {its : List Item} (h1 : ¬ err ≠ 0) (h2 : idxOk h l) (h3 : ¬ its.length ≠ l.length) : ¬ pX h l err its := by
 rintro (a | a | a)
 ·exact h1 a
 ·exact a h2
 ·exact h3 a
def eX (leaf : Nat → i6) (node : Nat × Nat → i6) (h : Nat) (kind : Int) (first : Nat) (l : List Nat) (err : Int) (its : List Item) (pa pb : List i6) : List Pr :=
 if pX h l err its then [] else if kind = 1 then D4 (I3 (h : Int) l (l.map leaf) ((l7 h l 0).map node)) (I3 (h : Int) l (M8 l its l.length) pb)
  else if (l.map leaf).length = (M8 l its l.length).length then D4 (L6 (h : Int) first (l.map leaf) ((l4 first h).map node) ((j6 (first + l.length - 1) h).map node)) (L6 (h : Int) first (M8 l its l.length) pa pb) else []
def jS (own : Nat → Item) (h : Nat) (l : List Nat) (err : Int) (its : List Item) : List Pr := if pX h l err its then [] else D4 (M6 l (l.map own)) (M6 l its)
theorem aB {leaf : Nat → i6} {node : Nat × Nat → i6} {h : Nat} {kind : Int} {first : Nat} {l : List Nat} {err : Int} {its : List Item} {pa pb : List i6} (hb : pX h l err its) : eX leaf node h kind first l err its pa pb = [] := if_pos hb
theorem cG {own : Nat → Item} {h : Nat} {l : List Nat} {err : Int} {its : List Item} (hb : pX h l err its) : jS own h l err its = [] := if_pos hb
theorem wZ {own : Nat → Item} {h : Nat} {l : List Nat} {err : Int} {its : List Item} (hb : ¬ pX h l err its) : jS own h l err its = D4 (M6 l (l.map own)) (M6 l its) := if_neg hb
theorem uB {leaf : Nat → i6} {node : Nat × Nat → i6} {h : Nat} {kind : Int} {first : Nat} {l : List Nat} {err : Int} {its : List Item} {pa pb : List i6} (hb : ¬ pX h l err its) (hk : kind = 1) :
  eX leaf node h kind first l err its pa pb = D4 (I3 (h : Int) l (l.map leaf) ((l7 h l 0).map node)) (I3 (h : Int) l (M8 l its l.length) pb) := by rw [eX, if_neg hb, if_pos hk]
theorem uC {leaf : Nat → i6} {node : Nat × Nat → i6} {h : Nat} {kind : Int} {first : Nat} {l : List Nat} {err : Int} {its : List Item} {pa pb : List i6} (hb : ¬ pX h l err its) (hk : ¬ kind = 1) :
  eX leaf node h kind first l err its pa pb = (if (l.map leaf).length = (M8 l its l.length).length then D4 (L6 (h : Int) first (l.map leaf) ((l4 first h).map node) ((j6 (first + l.length - 1) h).map node)) (L6 (h : Int) first (M8 l its l.length) pa pb) else []) := by rw [eX, if_neg hb, if_neg hk]
theorem FO {kind : Int} {first : Nat} {many : Int} {xs : List Nat} (hk : kind = 1) : fG kind first many xs = xs := if_pos hk
theorem FP {kind : Int} {first : Nat} {many : Int} {xs : List Nat} {h : Nat} (hk : ¬ kind = 1) (hh : h ≤ 32) (hi : idxOk h (fG kind first many xs)) : ∃ m : Nat, kind = 2 ∧ many = (m : Int) ∧ 1 ≤ m ∧ m ≤ 256 ∧ first + m ≤ 4294967296 ∧ fG kind first many xs = (List.range m).map (first + ·) ∧ (fG kind first many xs).length = m ∧ first + m ≤ 2 ^ h := by
 unfold fG at hi ⊢
 rw [if_neg hk] at hi ⊢
 split at hi
 ·rename_i g
  rw [if_pos g]
  refine ⟨many.toNat, g.1, by omega, by omega, by omega, g.2.2.2, rfl, by simp, ?_⟩
  have h1 := hi.low (first + (many.toNat - 1)) (List.mem_map.2 ⟨many.toNat - 1, List.mem_range.2 ow, rfl⟩)
  omega
 ·have h1 := hi.1
  simp at h1
theorem DA {kind : Int} {first : Nat} {many : Int} {xs : List Nat} (h : ∀ x ∈ xs, x < 18446744073709551616) : ∀ x ∈ fG kind first many xs, x < 18446744073709551616 := fun x hx => by
 unfold fG at hx
 split at hx
 ·exact h x hx
 ·split at hx
  ·rename_i g
   obtain ⟨i, hi, rfl⟩ := List.mem_map.1 hx
   have := List.mem_range.1 hi
   omega
  ·cases hx
end Go.E
