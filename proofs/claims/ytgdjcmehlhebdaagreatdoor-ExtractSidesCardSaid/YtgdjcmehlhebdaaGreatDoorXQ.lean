/-
  Sealed blocks, items and their leaves' texts; unlike items whose leaves are alike. Equality of sealed blocks and of items, as structures. A map and a list in order that hold the same; sealed blocks, orders and the leaves that they make. Orders: which are right, which fit, what they do to the sealed blocks. Sealed blocks in rows; an order as it is told apart. Plain facts for the laws of finds: lengths of texts, the fixed example. Numbers as bytes, sealed blocks' parts, items' texts: facts for the walks. Orders, requests, replies as cells. A list of texts and the same list turned around, taken as pairs.
-/
import Derived.Test.YtgdjcmehlhebdaaGreatDoorXP
import Derived.Test.YtgdjcmehlhebdaaGreatDoorP3
import Derived.Test.YtgdjcmehlhebdaaGreatDoorP1
import Derived.Test.YtgdjcmehlhebdaaGreatDoorM1
import Derived.Test.YtgdjcmehlhebdaaGreatDoorSH
import Derived.Test.YtgdjcmehlhebdaaGreatDoorE2
namespace Go.E
set_option linter.unusedVariables false
def T16 := { l : List UInt8 // l.length = 16 }
instance : DecidableEq T16 := fun a b => decidable_of_iff (a.1 = b.1) ⟨Subtype.ext, fun h => by rw [h]⟩
structure Sealed where
  ep : Nat
  lt : ep < 18446744073709551616
  data : H32
  tag : T16
def zeroS : Sealed := ⟨0, by decide, zeroH, ⟨List.replicate 16 0, by simp⟩⟩
def sealL (x : Sealed) : List Value := .int .u64 (x.ep : Int) :: (hvl x.data ++ bytesL x.tag.1)
theorem sealL_length (x : Sealed) : (sealL x).length = 49 := by simp [sealL, hvl_length, bytesL_length, x.tag.2]
structure Item where
  there : Bool
  s : Sealed
end Go.E
namespace Go.E
set_option linter.unusedVariables false
instance : DecidableEq Sealed := fun a b => decidable_of_iff (a.ep = b.ep ∧ a.data = b.data ∧ a.tag = b.tag) ⟨fun ⟨h1, h2, h3⟩ => by cases a; cases b; simp_all, fun h => by rw [h]; exact ⟨rfl, rfl, rfl⟩⟩
instance : DecidableEq Item := fun a b => decidable_of_iff (a.there = b.there ∧ a.s = b.s) ⟨fun ⟨h1, h2⟩ => by cases a; cases b; simp_all, fun h => by rw [h]; exact ⟨rfl, rfl⟩⟩
section
variable {C : Ctx} {env : Env} {L : List Assn} {dst : Option Tmp} {ty ty2 : TypeId} {pos : String} {after : Array Edge} {guard : Option (Nat × Bool)} {x y : Operand} {T : TypeId}
end
end Go.E
namespace Go.E
set_option linter.unusedVariables false
section
variable {α : Type}
structure RelA (ms ls : List (Nat × α)) : Prop where
  nodup : (keysOf ms).Nodup
  rise : ls.Pairwise (fun a b => a.1 < b.1)
  same : ∀ j, look j ms = look j ls
def loA (i : Nat) (ls : List (Nat × α)) : List (Nat × α) := ls.filter fun x => x.1 < i
def hiA (i : Nat) (ls : List (Nat × α)) : List (Nat × α) := ls.filter fun x => i < x.1
def optL (i : Nat) : Option α → List (Nat × α)
  | some x => [(i, x)]
  | none => []
def putA (i : Nat) (o : Option α) (ls : List (Nat × α)) : List (Nat × α) := loA i ls ++ optL i o ++ hiA i ls
theorem look_filterA (q : Nat → Bool) (j : Nat) : ∀ ls : List (Nat × α), look j (ls.filter fun p => q p.1) = if q j = true then look j ls else none
  | [] => by simp [look_nil]
  | x :: ls => by
    rw [List.filter_cons]
    by_cases hq : q x.1 = true
    · rw [if_pos hq, look_cons, look_cons, look_filterA q j ls]
      by_cases hj : j = x.1
      · subst hj; simp [hq]
      · simp [hj]
    · rw [if_neg hq, look_filterA q j ls, look_cons]
      by_cases hj : j = x.1
      · subst hj; simp [hq]
      · simp [hj]
theorem look_putA (i j : Nat) (o : Option α) (ls : List (Nat × α)) : look j (putA i o ls) = if j = i then o else look j ls := by
  have h1 : look j (loA i ls) = if decide (j < i) = true then look j ls else none := look_filterA (fun n => decide (n < i)) j ls
  have h2 : look j (hiA i ls) = if decide (i < j) = true then look j ls else none := look_filterA (fun n => decide (i < n)) j ls
  show look j (loA i ls ++ optL i o ++ hiA i ls) = _
  rw [look_append, look_append, h1, h2]
  by_cases h : j = i
  · subst h
    cases o <;> simp [optL, look_cons, look_nil]
  · rw [if_neg h]
    rcases Nat.lt_or_gt_of_ne h with g | g
    · have : ¬ i < j := by omega
      cases o <;> cases hl : look j ls <;> simp [optL, look_cons, look_nil, g, this, h]
    · have : ¬ j < i := by omega
      cases o <;> cases hl : look j ls <;> simp [optL, look_cons, look_nil, g, this, h]
theorem putA_rise {i : Nat} {o : Option α} {ls : List (Nat × α)} (h : ls.Pairwise (fun a b => a.1 < b.1)) : (putA i o ls).Pairwise (fun a b => a.1 < b.1) := by
  have lo : ∀ x ∈ loA i ls, x.1 < i := fun x hx => by simpa using (List.mem_filter.1 hx).2
  have hi : ∀ x ∈ hiA i ls, i < x.1 := fun x hx => by simpa using (List.mem_filter.1 hx).2
  refine List.pairwise_append.2 ⟨List.pairwise_append.2 ⟨h.sublist List.filter_sublist, ?_, fun x hx y hy => ?_⟩, h.sublist List.filter_sublist, fun x hx y hy => ?_⟩
  · cases o with
    | none => exact List.Pairwise.nil
    | some v => exact List.pairwise_singleton _ _
  · cases o with
    | none => cases hy
    | some v => rw [List.mem_singleton.1 hy]; exact lo x hx
  · have hy' := hi y hy
    rcases List.mem_append.1 hx with hx | hx
    · have := lo x hx; omega
    · cases o with
      | none => cases hx
      | some v => rw [List.mem_singleton.1 hx]; exact hy'
theorem RelA.nil : RelA ([] : List (Nat × α)) [] := ⟨List.nodup_nil, List.Pairwise.nil, fun _ => rfl⟩
theorem RelA.set {ms ls : List (Nat × α)} (h : RelA ms ls) (i : Nat) (x : α) : RelA (updR i x (delR i ms)) (putA i (some x) ls) := by
  have hd : (keysOf (delR i ms)).Nodup := by rw [keys_del i h.nodup]; exact h.nodup.filter _
  refine ⟨nodup_upd i x hd, putA_rise h.rise, fun j => ?_⟩
  rw [look_upd, look_del _ _ h.nodup, look_putA, h.same]
  by_cases e : j = i <;> simp [e]
theorem RelA.cut {ms ls : List (Nat × α)} (h : RelA ms ls) (q : Nat) : RelA (ms.filter fun p => decide (p.1 < q)) (loA q ls) :=
  ⟨keys_filter _ h.nodup, h.rise.sublist List.filter_sublist, fun j => by
    have h2 : look j (loA q ls) = if decide (j < q) = true then look j ls else none := look_filterA (fun n => decide (n < q)) j ls
    rw [look_filterA (fun n => decide (n < q)) j ms, h2, h.same]⟩
theorem RelA.len {ms ls : List (Nat × α)} (h : RelA ms ls) : ms.length = ls.length := by
  have hn : (ls.map (·.1)).Nodup := List.pairwise_map.2 (h.rise.imp fun {a b} hab => Nat.ne_of_lt hab)
  have hp : (keysOf ms).Perm (ls.map (·.1)) := by
    refine (List.perm_ext_iff_of_nodup h.nodup hn).2 fun x => ?_
    have h1 : x ∈ keysOf ms ↔ look x ms ≠ none := by rw [ne_eq, look_none]; exact Decidable.not_not.symm
    have h2 : x ∈ ls.map (·.1) ↔ look x ls ≠ none := by
      have : look x ls = none ↔ x ∉ keysOf ls := look_none
      rw [ne_eq, this]; exact Decidable.not_not.symm
    rw [h1, h2, h.same]
  have := hp.length_eq
  rwa [keys_len, List.length_map] at this
end
end Go.E
namespace Go.E
set_option linter.unusedVariables false
structure Order where
  kind : Int
  xs : List Nat
  ss : List Sealed
  blocks : Nat
def epOk (e : Nat) : Prop := 1 ≤ e ∧ e < 18446744073709551615
instance (e : Nat) : Decidable (epOk e) := inferInstanceAs (Decidable (_ ∧ _))
def rightO (o : Order) : Prop := (o.kind = 1 ∧ o.blocks = 0 ∧ idxOk 32 o.xs ∧ o.ss.length = o.xs.length ∧ ∀ s ∈ o.ss, epOk s.ep ∧ s.ep = (o.ss.getD 0 zeroS).ep) ∨ (o.kind = 2 ∧ o.blocks = 0 ∧ idxOk 32 o.xs ∧ o.ss.length = 0) ∨ (o.kind = 3 ∧ o.xs.length = 0 ∧ o.ss.length = 0 ∧ okN o.blocks)
instance (o : Order) : Decidable (rightO o) := inferInstanceAs (Decidable (_ ∨ _ ∨ _))
def fitsO (o : Order) (blocks : Nat) : Prop := rightO o ∧ ∀ x ∈ o.xs, x < blocks
instance (o : Order) (b : Nat) : Decidable (fitsO o b) := inferInstanceAs (Decidable (_ ∧ _))
end Go.E
namespace Go.E
set_option linter.unusedVariables false
theorem sealS_len (ss : List Sealed) : (ss.flatMap sealL).length = ss.length * 49 := by
  induction ss with
  | nil => rfl
  | cons t ts ih => rw [List.flatMap_cons, List.length_append, ih, sealL_length, List.length_cons]; omega
theorem sealS_at {ss : List Sealed} {k i : Nat} (h : k < ss.length) (hi : i = k * 49) : ∀ j v, (sealL (ss.getD k zeroS))[j]? = some v → (ss.flatMap sealL)[i + j]? = some v := fun j v hj => by
  subst hi
  exact flat_at (encL := sealL) (sz := 49) sealL_length ss k _ (getD_some zeroS h) j v hj
def sv (x : Sealed) : Value := .agg (sealL x).toArray
theorem sealM {ss : List Sealed} {k : Nat} (h : k < ss.length) : ss.getD k zeroS ∈ ss := by
  rw [show ss.getD k zeroS = ss[k] by simp [List.getD, h]]; exact List.getElem_mem h
/-- What is odd in a sealed block of an order. -/
def oddS (ss : List Sealed) (x : Sealed) : Bool := decide (¬ epOk x.ep ∨ x.ep ≠ (ss.getD 0 zeroS).ep)
theorem right_1 {k : Int} {xs : List Nat} {ss : List Sealed} {b : Nat} (h1 : k = 1) (h2 : b = 0) (h3 : idxOk 32 xs) (h4 : ss.length = xs.length) (h5 : ∀ s ∈ ss, oddS ss s = false) : rightO ⟨k, xs, ss, b⟩ := by
  refine .inl ⟨h1, h2, h3, h4, fun s hs => ?_⟩
  have := of_decide_eq_false (h5 s hs)
  exact ⟨Decidable.byContradiction fun h => this (.inl h), Decidable.byContradiction fun h => this (.inr h)⟩
theorem right_odd {k : Int} {xs : List Nat} {ss : List Sealed} {b : Nat} (h1 : k = 1) (h5 : ∃ s ∈ ss, oddS ss s = true) : ¬ rightO ⟨k, xs, ss, b⟩ := by
  rintro (⟨a, b, c, d, e⟩ | ⟨a, _⟩ | ⟨a, _⟩)
  · obtain ⟨s, hs, ho⟩ := h5
    rcases of_decide_eq_true ho with h | h
    · exact h (e s hs).1
    · exact h (e s hs).2
  · have : k = 2 := a; omega
  · have : k = 3 := a; omega
/-- The numbers of an order as a value. -/
def orderV (A : Option Addr) (c : Nat) (B : Option Addr) (d : Nat) (o : Order) : List Value := [.int .i64 o.kind, .slice A o.xs.length c, .slice B o.ss.length d, .int .u64 (o.blocks : Int)]
/-- What a reply to a change is held against, by the tree's values. -/
def stepP (leaf : Nat → H32) (node : Nat × Nat → H32) (path : Nat → List H32) (n : Nat) (o : Order) (err : Int) (pa pb : List H32) : List Pr :=
  if err ≠ 0 ∨ ¬ fitsO o n then [] else if o.kind ≠ 3 then pairX (openQ (hgt n : Int) o.xs (o.xs.map leaf) ((spots (hgt n) o.xs 0).map node)) (openQ (hgt n : Int) o.xs pa pb)
  else if o.blocks < n ∧ pa.length = 1 then pairX (pathQ (leaf (o.blocks - 1)) (o.blocks - 1) (path (o.blocks - 1))) (pathQ (pa.getD 0 zeroH) (o.blocks - 1) pb) else []
theorem fitsO_idx {o : Order} {n : Nat} (h : fitsO o n) (hk : o.kind ≠ 3) : idxOk 32 o.xs := by
  rcases h.1 with ⟨_, _, c, _⟩ | ⟨_, _, c, _⟩ | ⟨a, _⟩
  · exact c
  · exact c
  · exact absurd a hk
theorem fitsO_hgt {o : Order} {n : Nat} (hn : okN n) (h : fitsO o n) (hk : o.kind ≠ 3) : idxOk (hgt n) o.xs := by
  have h1 := fitsO_idx h hk
  refine ⟨h1.1, h1.2.1, fun j hj => ⟨?_, (h1.2.2 j hj).2⟩⟩
  have := h.2 _ (getD_mem 0 hj)
  have := hgt_lt hn
  omega
theorem fitsO_blocks {o : Order} {n : Nat} (h : fitsO o n) (hk : o.kind = 3) : okN o.blocks := by
  rcases h.1 with ⟨a, _⟩ | ⟨a, _⟩ | ⟨_, _, _, d⟩
  · rw [hk] at a; exact absurd a (by decide)
  · rw [hk] at a; exact absurd a (by decide)
  · exact d
theorem stepP_bad {leaf : Nat → H32} {node : Nat × Nat → H32} {path : Nat → List H32} {n : Nat} {o : Order} {err : Int} {pa pb : List H32} (h : err ≠ 0 ∨ ¬ fitsO o n) : stepP leaf node path n o err pa pb = [] := if_pos h
theorem stepP_open {leaf : Nat → H32} {node : Nat × Nat → H32} {path : Nat → List H32} {n : Nat} {o : Order} {err : Int} {pa pb : List H32} (h1 : ¬ err ≠ 0) (h2 : fitsO o n) (h3 : o.kind ≠ 3) : stepP leaf node path n o err pa pb = pairX (openQ (hgt n : Int) o.xs (o.xs.map leaf) ((spots (hgt n) o.xs 0).map node)) (openQ (hgt n : Int) o.xs pa pb) := by
  rw [stepP, if_neg (fun h => h.elim h1 (fun k => k h2)), if_pos h3]
theorem stepP_path {leaf : Nat → H32} {node : Nat × Nat → H32} {path : Nat → List H32} {n : Nat} {o : Order} {err : Int} {pa pb : List H32} (h1 : ¬ err ≠ 0) (h2 : fitsO o n) (h3 : ¬ o.kind ≠ 3) (h4 : o.blocks < n) (h5 : pa.length = 1) : stepP leaf node path n o err pa pb = pairX (pathQ (leaf (o.blocks - 1)) (o.blocks - 1) (path (o.blocks - 1))) (pathQ (pa.getD 0 zeroH) (o.blocks - 1) pb) := by
  rw [stepP, if_neg (fun h => h.elim h1 (fun k => k h2)), if_neg h3, if_pos ⟨h4, h5⟩]
theorem stepP_no {leaf : Nat → H32} {node : Nat × Nat → H32} {path : Nat → List H32} {n : Nat} {o : Order} {err : Int} {pa pb : List H32} (h1 : ¬ err ≠ 0) (h2 : fitsO o n) (h3 : ¬ o.kind ≠ 3) (h4 : ¬ (o.blocks < n ∧ pa.length = 1)) : stepP leaf node path n o err pa pb = [] := by
  rw [stepP, if_neg (fun h => h.elim h1 (fun k => k h2)), if_neg h3, if_neg h4]
theorem Qt.build3 {C : Ctx} {env : Env} {L : List Assn} {T ty : TypeId} {dst : Option Tmp} {pos : String} {after : Array Edge} {guard : Option (Nat × Bool)} {i j k : Nat} {x y z : Operand} {a b c v : Value} (hx : env.ev x = a) (hy : env.ev y = b) (hz : env.ev z = c)
    (h : ∀ w, (Instr.build T #[(i, a), (j, b), (k, c)]).run C.P w = .ok v w) : Qt C L ⟨dst, .build T #[(i, x), (j, y), (k, z)], ty, pos, after, guard⟩ env v := Qt.build (ps := #[(i, a), (j, b), (k, c)]) (by simp [hx, hy, hz]) h
end Go.E
namespace Go.E
set_option linter.unusedVariables false
def TxLe (X : Option (List (List UInt8))) : Prop := ∀ xs, X = some xs → ∀ t ∈ xs, t.length ≤ 70368744177664
theorem pairX_le {X1 X2 : Option (List (List UInt8))} (h1 : TxLe X1) (h2 : TxLe X2) : ∀ p ∈ pairX X1 X2, p.1.length ≤ 70368744177664 ∧ p.2.length ≤ 70368744177664 := fun p hp => by
  cases X1 with
  | none => cases hp
  | some a => cases X2 with
    | none => cases hp
    | some b =>
      have hp' : p ∈ zipX a b := hp
      unfold zipX at hp'
      split at hp'
      · have := List.of_mem_zip (a := p.1) (b := p.2) hp'
        exact ⟨h1 a rfl _ this.1, h2 b rfl _ this.2⟩
      · cases hp'
theorem PxLe.of {ps : List Px} {E : List Pr} (e : ps.map pxT = E) (h : ∀ p ∈ E, p.1.length ≤ 70368744177664 ∧ p.2.length ≤ 70368744177664) : PxLe ps := fun p hp => h (pxT p) (e ▸ List.mem_map_of_mem hp)
theorem PxRo.many {C : Ctx} {L Ls : List Assn} {ps : List Px} (h : Rd C L (Many Ls)) (hm : ∀ p ∈ ps, txOwn p.1 ∈ Ls ∧ txOwn p.2 ∈ Ls) {w : World} (hw : St C.w0 C.M L w) : PxRo w [] ps := fun p hp =>
  ⟨Rd.own (e := 5) (sz := 1) (Rd.many h (hm p hp).1) w hw, Rd.own (e := 5) (sz := 1) (Rd.many h (hm p hp).2) w hw⟩
theorem ro_none (w : World) : Ro w [] (SlA none []) := ⟨fun j u hj => by simp at hj, fun b hb => by rw [SlA_fp] at hb; obtain ⟨x, hx, _⟩ := mem_slfp hb; cases hx⟩
theorem alive32_fits : fitsO ⟨2, [0, 1], [], 0⟩ 2 := by decide
theorem alive32_eq (leaf : Nat → H32) (node : Nat × Nat → H32) (path : Nat → List H32) : stepP leaf node path 2 ⟨2, [0, 1], [], 0⟩ 0 [zeroH, zeroH] [] = [(joinT 1 (leaf 0) (leaf 1), joinT 1 zeroH zeroH)] := by
  rw [stepP_open (by decide) alive32_fits (by decide)]
  have h2 : hgt 2 = 1 := by decide
  rw [h2]
  have hi : idxOk 1 [0, 1] := by decide
  show pairX (openQ ((1 : Nat) : Int) [0, 1] _ _) (openQ ((1 : Nat) : Int) [0, 1] _ _) = _
  have hs : spots 1 [0, 1] 0 = [] := by decide
  show pairX (openQ ((1 : Nat) : Int) [0, 1] [leaf 0, leaf 1] ((spots 1 [0, 1] 0).map node)) (openQ ((1 : Nat) : Int) [0, 1] [zeroH, zeroH] []) = _
  rw [hs, openQ_T (by decide) hi rfl (by rw [hs]; rfl), openQ_T (by decide) hi rfl (by rw [hs]; rfl)]
  rfl
end Go.E
namespace Go.E
set_option linter.unusedVariables false
section
variable {C : Ctx} {Q : EQ} {env : Env} {ops : Array Oper} {L : List Assn}
theorem TL.shutOwn {l : List Oper} {L0 L : List Assn} {e : TypeId} {sz g n c : Nat} {cs : List Value} (hl : cs.length = c * sz) (hn : n ≤ c) (hm : c ≤ maxLen) (s : L0.Perm (Blk g e cs :: L)) (h : TL C ops Q l env (OwnA e sz (some ⟨g, 0, none⟩) n c (cs.take (n * sz)) :: L)) : TL C ops Q l env L0 :=
  fun a w ha hw => h a w ha ((hw.perm s).shutOwn hl hn hm)
end
section
variable {C : Ctx} {env : Env} {L : List Assn} {dst : Option Tmp} {ty : TypeId} {pos : String} {after : Array Edge} {guard : Option (Nat × Bool)} {x y : Operand} {T e : TypeId}
end
end Go.E
namespace Go.E
set_option linter.unusedVariables false
/-- An order, and where its lists lie. -/
structure OrdA where
  A : Option Addr
  c : Nat
  B : Option Addr
  d : Nat
  o : Order
/-- A request's cells, as far as they are looked at. -/
structure ReqA where
  rq : List Value
  kind : Int
  A : Option Addr
  c : Nat
  xs : List Nat
  first : Nat
  many : Int
  len : rq.length = 28
  k1 : rq[1]? = some (.int .i64 kind)
  k2 : rq[2]? = some (.slice A xs.length c)
  k3 : rq[3]? = some (.int .u64 (first : Int))
  k4 : rq[4]? = some (.int .i64 many)
/-- A reply's cells, as far as they are looked at. -/
structure RepA where
  rs : List Value
  err : Int
  I : Option Addr
  i : Nat
  its : List Item
  P : Option Addr
  p : Nat
  pa : List H32
  Q : Option Addr
  q : Nat
  pb : List H32
  len : rs.length = 29
  k2 : rs[2]? = some (.int .i64 err)
  k3 : rs[3]? = some (.slice I its.length i)
  k27 : rs[27]? = some (.slice P pa.length p)
  k28 : rs[28]? = some (.slice Q pb.length q)
/-- More than is looked at. -/
def bigO (x : OrdA) : Prop := 12 < x.o.xs.length ∨ 12 < x.o.ss.length
instance (x : OrdA) : Decidable (bigO x) := inferInstanceAs (Decidable (_ ∨ _))
def largeO (os : List OrdA) (q : ReqA) (p : RepA) (x : OrdA) : Prop := (∃ y ∈ x :: os, bigO y) ∨ 20 < os.length ∨ 30 < q.xs.length ∨ 30 < q.many ∨ 40 < p.its.length ∨ 60 < p.pa.length ∨ 300 < p.pb.length
instance (os : List OrdA) (q : ReqA) (p : RepA) (x : OrdA) : Decidable (largeO os q p x) := inferInstanceAs (Decidable (_ ∨ _))
end Go.E
namespace Go.E
set_option linter.unusedVariables false
end Go.E
