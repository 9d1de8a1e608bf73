/-
  Sealed blocks, items and their leaves' texts; unlike items whose leaves are alike. Equality of sealed blocks and of items, as structures. A map and a list in order that hold the same; sealed blocks, orders and the leaves that they make. Orders: which are right, which fit, what they do to the sealed blocks. Sealed blocks in rows; an order as it is told apart. Plain facts for the laws of finds: lengths of texts, the fixed example. Numbers as bytes, sealed blocks' parts, items' texts: facts for the walks.
-/
import Derived.Test.YtgdjcmehlhebdaaGreatDoorXP
import Derived.Test.YtgdjcmehlhebdaaGreatDoorP3
import Derived.Test.YtgdjcmehlhebdaaGreatDoorP1
import Derived.Test.YtgdjcmehlhebdaaGreatDoorM1
import Derived.Test.YtgdjcmehlhebdaaGreatDoorSH
import Derived.Test.YtgdjcmehlhebdaaGreatDoorE2
namespace Go.E
set_option linter.unusedVariables false
def T16 := { l : List UInt8 // l.length = 16 }
instance : DecidableEq T16 := fun a b => decidable_of_iff (a.1 = b.1) ⟨Subtype.ext, fun h => by rw [h]⟩
structure Sealed where
  ep : Nat
  lt : ep < 18446744073709551616
  data : H32
  tag : T16
def zeroS : Sealed := ⟨0, by decide, zeroH, ⟨List.replicate 16 0, by simp⟩⟩
def sealL (x : Sealed) : List Value := .int .u64 (x.ep : Int) :: (hvl x.data ++ bytesL x.tag.1)
theorem sealL_length (x : Sealed) : (sealL x).length = 49 := by simp [sealL, hvl_length, bytesL_length, x.tag.2]
structure Item where
  there : Bool
  s : Sealed
def itemL (x : Item) : List Value := .bool x.there :: sealL x.s
theorem itemL_length (x : Item) : (itemL x).length = 50 := by rw [itemL, List.length_cons, sealL_length]
/-- A sealed block's bytes, a leaf's text. -/
def putS (x : Sealed) : List UInt8 := numB x.ep 8 ++ x.data.1 ++ x.tag.1
def leafX (i : Nat) (x : Sealed) : List UInt8 := numB 1 1 ++ numB i 4 ++ putS x
def itemX (i : Nat) (x : Item) : List UInt8 := if x.there = true then leafX i x.s else [0]
theorem putS_length (x : Sealed) : (putS x).length = 56 := by simp [putS, numB_length, x.data.2, x.tag.2]
theorem leafX_length (i : Nat) (x : Sealed) : (leafX i x).length = 61 := by simp [leafX, numB_length, putS_length]
theorem byte_eq {a b : Nat} (h : UInt8.ofNat a = UInt8.ofNat b) : a % 256 = b % 256 := by
  have := congrArg UInt8.toNat h
  simpa [UInt8.toNat_ofNat'] using this
theorem numB_low (s : Nat) : ∀ {n m : Nat}, numB n s = numB m s → n % 256 ^ s = m % 256 ^ s := by
  induction s with
  | zero => intro n m _; simp [Nat.mod_one]
  | succ s ih =>
    intro n m h
    have hg : ∀ i, i < s + 1 → UInt8.ofNat (n / 2 ^ (8 * (s + 1 - 1 - i))) = UInt8.ofNat (m / 2 ^ (8 * (s + 1 - 1 - i))) := fun i hi => by
      have := congrArg (fun l : List UInt8 => l[i]?) h
      simpa [numB, hi] using this
    have h0 := byte_eq (hg s (Nat.lt_succ_self _))
    rw [show s + 1 - 1 - s = 0 by omega, Nat.mul_zero, Nat.pow_zero, Nat.div_one, Nat.div_one] at h0
    have h1 := ih (n := n / 256) (m := m / 256) (by
      unfold numB
      refine List.map_congr_left fun i hi => ?_
      have hi := List.mem_range.1 hi
      have := hg i (by omega)
      rw [show s + 1 - 1 - i = (s - 1 - i) + 1 by omega, Nat.mul_add, Nat.mul_one, Nat.pow_add, show (2 : Nat) ^ 8 = 256 from rfl, Nat.mul_comm, ← Nat.div_div_eq_div_mul, ← Nat.div_div_eq_div_mul] at this
      exact this)
    rw [Nat.pow_succ, Nat.mul_comm, Nat.mod_mul, Nat.mod_mul, h0, h1]
theorem numB_inj {s n m : Nat} (hn : n < 256 ^ s) (hm : m < 256 ^ s) (h : numB n s = numB m s) : n = m := by
  have := numB_low s h
  rwa [Nat.mod_eq_of_lt hn, Nat.mod_eq_of_lt hm] at this
theorem putS_inj {x y : Sealed} (h : putS x = putS y) : x = y := by
  unfold putS at h
  have a := List.append_inj h (by rw [List.length_append, List.length_append, numB_length, numB_length, x.data.2, y.data.2])
  have b := List.append_inj a.1 (by rw [numB_length, numB_length])
  have c := numB_inj (s := 8) x.lt y.lt b.1
  cases x; cases y
  simp only at c a b
  subst c
  have d1 := Subtype.ext b.2
  have d2 := Subtype.ext a.2
  subst d1
  subst d2
  rfl
theorem leafX_inj {i : Nat} {x y : Sealed} (h : leafX i x = leafX i y) : x = y := putS_inj (List.append_inj h rfl).2
/-- Items that are the same, as far as they are there. -/
def alikeI (x y : Item) : Prop := x.there = y.there ∧ (x.there = true → x.s = y.s)
theorem itemX_inj {i : Nat} {x y : Item} (h : itemX i x = itemX i y) : alikeI x y := by
  unfold itemX at h
  split at h
  · rename_i hx
    split at h
    · rename_i hy
      exact ⟨by rw [hx, hy], fun _ => leafX_inj h⟩
    · have := congrArg List.length h
      rw [leafX_length] at this; simp at this
  · rename_i hx
    split at h
    · have := congrArg List.length h
      rw [leafX_length] at this; simp at this
    · rename_i hy
      exact ⟨by cases hx' : x.there <;> cases hy' : y.there <;> simp_all, fun e => absurd e hx⟩
def item0 : Item := ⟨false, zeroS⟩
def itemT (xs : List Nat) (l : List Item) : List (List UInt8) := (List.range xs.length).map fun i => itemX (xs.getD i 0) (l.getD i item0)
theorem itemT_len (xs : List Nat) (l : List Item) : (itemT xs l).length = xs.length := by simp [itemT]
theorem items_find {xs : List Nat} {a b : List Item} (h : ∀ i, i < xs.length → shaH (itemX (xs.getD i 0) (a.getD i item0)) = shaH (itemX (xs.getD i 0) (b.getD i item0)))
    (hn : ¬ ∀ i, i < xs.length → alikeI (a.getD i item0) (b.getD i item0)) : ∃ q ∈ (itemT xs a).zip (itemT xs b), isF q = true := by
  refine Decidable.byContradiction fun hc => hn fun i hi => ?_
  refine itemX_inj (i := xs.getD i 0) (Decidable.byContradiction fun hne => hc ⟨(itemX (xs.getD i 0) (a.getD i item0), itemX (xs.getD i 0) (b.getD i item0)), ?_, isF_iff.2 ⟨hne, h i hi⟩⟩)
  refine List.mem_iff_getElem.2 ⟨i, by rw [List.length_zip, itemT_len, itemT_len]; omega, ?_⟩
  simp [itemT]
end Go.E
namespace Go.E
set_option linter.unusedVariables false
theorem run_part_agg {P : Program} {w : World} {e : TypeId} {off n : Nat} {xs : List Value} (h : rowT P e = true) (hs : (P.info? e).map (·.size) = some n) :
    (part e xs.toArray off).run P w = .ok (.agg ((xs.drop off).take n).toArray) w := by
  obtain ⟨i, hi, h1⟩ := Option.map_eq_some_iff.1 hs
  have hc : P.cellsOf e = n := by simp [Program.cellsOf, hi, h1]
  have ha := run_isAgg_row (P := P) (T := e) (w := w) h
  have hz := run_sizeOf (P := P) w hi
  simp [part, ha, hz, hc, List.extract]
theorem all_getDn {n : Nat} {xs ys : List UInt8} (h1 : xs.length = n) (h2 : ys.length = n) : ((List.range n).all fun i => decide (xs.getD i 0 = ys.getD i 0)) = decide (xs = ys) := by
  rw [Bool.eq_iff_iff]
  simp only [List.all_eq_true, List.mem_range, decide_eq_true_eq]
  constructor
  · intro h
    refine List.ext_getElem (by omega) fun i h3 h4 => ?_
    have := h i (by omega)
    simpa [List.getD, h3, h4] using this
  · rintro rfl i _; rfl
theorem equalIn_arr {P : Program} {w : World} {T e : TypeId} {n : Nat} {xs ys : List UInt8} (hx : xs.length = n) (hy : ys.length = n) (ht : P.underlying T = some (.array n e)) (he : P.underlying e = some (.int .u8)) (hs : (P.info? e).map (·.size) = some 1) (d : Nat) :
    (Op.equalIn (d + 2) T (.agg (bytesL xs).toArray) (.agg (bytesL ys).toArray)).run P w = .ok (decide (xs = ys)) w := by
  obtain ⟨i, hi, h1⟩ := Option.map_eq_some_iff.1 hs
  have hc : P.cellsOf e = 1 := by simp [Program.cellsOf, hi, h1]
  have := run_eqItems_u8 (P := P) (w := w) d he xs ys (List.range n) (fun i h => by rw [hx, hy]; simpa using h)
  rw [run_equalIn_array w (d + 1) _ _ ht hi, hc, this, all_getDn hx hy]
instance : DecidableEq Sealed := fun a b => decidable_of_iff (a.ep = b.ep ∧ a.data = b.data ∧ a.tag = b.tag) ⟨fun ⟨h1, h2, h3⟩ => by cases a; cases b; simp_all, fun h => by rw [h]; exact ⟨rfl, rfl, rfl⟩⟩
instance : DecidableEq Item := fun a b => decidable_of_iff (a.there = b.there ∧ a.s = b.s) ⟨fun ⟨h1, h2⟩ => by cases a; cases b; simp_all, fun h => by rw [h]; exact ⟨rfl, rfl⟩⟩
/-- A type of sealed blocks. -/
def SealT (P : Program) (T : TypeId) : Prop := ∃ f0 f1 f2 e, P.underlying T = some (.struct #[f0, f1, f2]) ∧ P.stoodInHeld T = false ∧ (f0.name ≠ "_" ∧ f1.name ≠ "_" ∧ f2.name ≠ "_") ∧ (f0.offset = 0 ∧ f1.offset = 1 ∧ f2.offset = 33) ∧
  P.underlying f0.type = some (.int .u64) ∧ P.underlying f1.type = some (.array 32 e) ∧ P.underlying f2.type = some (.array 16 e) ∧ P.underlying e = some (.int .u8) ∧ (P.info? e).map (·.size) = some 1 ∧
  (rowT P f1.type = true ∧ rowT P f2.type = true) ∧ (P.info? f1.type).map (·.size) = some 32 ∧ (P.info? f2.type).map (·.size) = some 16
theorem sealL_data (x : Sealed) : ((sealL x).drop 1).take 32 = bytesL x.data.1 := by
  show ((hvl x.data ++ bytesL x.tag.1)).take 32 = _
  rw [List.take_append_of_le_length (by rw [hvl_length]; exact Nat.le_refl _)]
  exact List.take_of_length_le (by rw [hvl_length]; exact Nat.le_refl _)
theorem sealL_tag (x : Sealed) : ((sealL x).drop 33).take 16 = bytesL x.tag.1 := by
  show ((hvl x.data ++ bytesL x.tag.1).drop 32).take 16 = _
  rw [List.drop_append_of_le_length (by rw [hvl_length]; exact Nat.le_refl _), List.drop_of_length_le (by rw [hvl_length]; exact Nat.le_refl _), List.nil_append]
  exact List.take_of_length_le (by rw [bytesL_length, x.tag.2]; exact Nat.le_refl _)
theorem equalIn_seal {P : Program} {w : World} {T : TypeId} (h : SealT P T) (x y : Sealed) (d : Nat) :
    (Op.equalIn (d + 4) T (.agg (sealL x).toArray) (.agg (sealL y).toArray)).run P w = .ok (decide (x = y)) w := by
  obtain ⟨f0, f1, f2, e, hT, hs, ⟨n0, n1, n2⟩, ⟨o0, o1, o2⟩, t0, t1, t2, te, se, ⟨r1, r2⟩, s1, s2⟩ := h
  have hf : P.fieldsOf T = #[f0, f1, f2] := by simp [Program.fieldsOf, hT]
  have hp : P.plainKey f0.type = true := by simp [Program.plainKey, t0]
  have a0 : ∀ z : Sealed, (part f0.type (sealL z).toArray 0).run P w = .ok (.int .u64 (z.ep : Int)) w := fun z => run_part_plain (P := P) w hp (by simp [sealL])
  have a1 : ∀ z : Sealed, (part f1.type (sealL z).toArray 1).run P w = .ok (.agg (bytesL z.data.1).toArray) w := fun z => by rw [run_part_agg r1 s1, sealL_data]
  have a2 : ∀ z : Sealed, (part f2.type (sealL z).toArray 33).run P w = .ok (.agg (bytesL z.tag.1).toArray) w := fun z => by rw [run_part_agg r2 s2, sealL_tag]
  have e0 := equalIn_int (P := P) (w := w) (k := .u64) (a := (x.ep : Int)) (b := (y.ep : Int)) t0 (d + 2)
  have e1 := equalIn_arr (P := P) (w := w) x.data.2 y.data.2 t1 te se (d + 1)
  have e2 := equalIn_arr (P := P) (w := w) x.tag.2 y.tag.2 t2 te se (d + 1)
  rw [run_equalIn_struct w (d + 3) T _ _ (by rw [hf]; exact hT) hs, hf]
  simp only [Op.eqFields, n0, n1, n2, o0, o1, o2, ne_eq, not_false_eq_true, if_true, Sem.run_bind, Sem.run_ite, Sem.run_pure, a0, a1, a2, e0, e1, e2, Result.andThen_ok]
  have hx : (x = y) ↔ (x.ep = y.ep ∧ x.data.1 = y.data.1 ∧ x.tag.1 = y.tag.1) := ⟨fun h => by rw [h]; exact ⟨rfl, rfl, rfl⟩, fun ⟨q1, q2, q3⟩ => by
    have q4 : x.data = y.data := Subtype.ext q2
    have q5 : x.tag = y.tag := Subtype.ext q3
    cases x; cases y; simp only at q1 q4 q5; subst q1; subst q4; subst q5; rfl⟩
  by_cases c0 : x.ep = y.ep
  · by_cases c1 : x.data.1 = y.data.1
    · by_cases c2 : x.tag.1 = y.tag.1
      · have : decide (x = y) = true := decide_eq_true (hx.2 ⟨c0, c1, c2⟩)
        simp [c0, c1, c2, this]
      · have : decide (x = y) = false := decide_eq_false fun h => c2 (hx.1 h).2.2
        simp [c0, c1, c2, this]
    · have : decide (x = y) = false := decide_eq_false fun h => c1 (hx.1 h).2.1
      simp [c0, c1, this]
  · have : decide (x = y) = false := decide_eq_false fun h => c0 (hx.1 h).1
    have c : ¬ ((x.ep : Int) = (y.ep : Int)) := fun h => c0 (by omega)
    have cb : (((x.ep : Int)) == ((y.ep : Int))) = false := by rw [beq_eq_false_iff_ne]; exact c
    simp [cb, this]
section
variable {C : Ctx} {env : Env} {L : List Assn} {dst : Option Tmp} {ty ty2 : TypeId} {pos : String} {after : Array Edge} {guard : Option (Nat × Bool)} {x y : Operand} {T : TypeId}
theorem Qt.neSeal {a b : Sealed} (hm : C.P.eqGuardType C.P.depth T = false) (ht : SealT C.P T) (hx : env.ev x = .agg (sealL a).toArray) (hy : env.ev y = .agg (sealL b).toArray) : Qt C L ⟨dst, .binOp .neq T x y ty2, ty, pos, after, guard⟩ env (.bool (decide (a ≠ b))) := fun w _ => by
  have h := equalIn_seal (P := C.P) (w := w) ht a b 9996
  have h2 : (binOp .neq T (.agg (sealL a).toArray) (.agg (sealL b).toArray)).run C.P w = .ok (.bool (decide (a ≠ b))) w := by
    rw [run_neq_struct, h]; simp
  have h3 : (eqGuard .neq T x y (.agg (sealL a).toArray) (.agg (sealL b).toArray)).run C.P w = .ok () w := run_eqGuard_agg w .neq T x y _ _ hm
  simp [execOp, hx, hy, h2, h3]
end
end Go.E
namespace Go.E
set_option linter.unusedVariables false
section
variable {α : Type}
structure RelA (ms ls : List (Nat × α)) : Prop where
  nodup : (keysOf ms).Nodup
  rise : ls.Pairwise (fun a b => a.1 < b.1)
  same : ∀ j, look j ms = look j ls
def loA (i : Nat) (ls : List (Nat × α)) : List (Nat × α) := ls.filter fun x => x.1 < i
def hiA (i : Nat) (ls : List (Nat × α)) : List (Nat × α) := ls.filter fun x => i < x.1
def optL (i : Nat) : Option α → List (Nat × α)
  | some x => [(i, x)]
  | none => []
def putA (i : Nat) (o : Option α) (ls : List (Nat × α)) : List (Nat × α) := loA i ls ++ optL i o ++ hiA i ls
theorem look_filterA (q : Nat → Bool) (j : Nat) : ∀ ls : List (Nat × α), look j (ls.filter fun p => q p.1) = if q j = true then look j ls else none
  | [] => by simp [look_nil]
  | x :: ls => by
    rw [List.filter_cons]
    by_cases hq : q x.1 = true
    · rw [if_pos hq, look_cons, look_cons, look_filterA q j ls]
      by_cases hj : j = x.1
      · subst hj; simp [hq]
      · simp [hj]
    · rw [if_neg hq, look_filterA q j ls, look_cons]
      by_cases hj : j = x.1
      · subst hj; simp [hq]
      · simp [hj]
theorem look_putA (i j : Nat) (o : Option α) (ls : List (Nat × α)) : look j (putA i o ls) = if j = i then o else look j ls := by
  have h1 : look j (loA i ls) = if decide (j < i) = true then look j ls else none := look_filterA (fun n => decide (n < i)) j ls
  have h2 : look j (hiA i ls) = if decide (i < j) = true then look j ls else none := look_filterA (fun n => decide (i < n)) j ls
  show look j (loA i ls ++ optL i o ++ hiA i ls) = _
  rw [look_append, look_append, h1, h2]
  by_cases h : j = i
  · subst h
    cases o <;> simp [optL, look_cons, look_nil]
  · rw [if_neg h]
    rcases Nat.lt_or_gt_of_ne h with g | g
    · have : ¬ i < j := by omega
      cases o <;> cases hl : look j ls <;> simp [optL, look_cons, look_nil, g, this, h]
    · have : ¬ j < i := by omega
      cases o <;> cases hl : look j ls <;> simp [optL, look_cons, look_nil, g, this, h]
theorem putA_rise {i : Nat} {o : Option α} {ls : List (Nat × α)} (h : ls.Pairwise (fun a b => a.1 < b.1)) : (putA i o ls).Pairwise (fun a b => a.1 < b.1) := by
  have lo : ∀ x ∈ loA i ls, x.1 < i := fun x hx => by simpa using (List.mem_filter.1 hx).2
  have hi : ∀ x ∈ hiA i ls, i < x.1 := fun x hx => by simpa using (List.mem_filter.1 hx).2
  refine List.pairwise_append.2 ⟨List.pairwise_append.2 ⟨h.sublist List.filter_sublist, ?_, fun x hx y hy => ?_⟩, h.sublist List.filter_sublist, fun x hx y hy => ?_⟩
  · cases o with
    | none => exact List.Pairwise.nil
    | some v => exact List.pairwise_singleton _ _
  · cases o with
    | none => cases hy
    | some v => rw [List.mem_singleton.1 hy]; exact lo x hx
  · have hy' := hi y hy
    rcases List.mem_append.1 hx with hx | hx
    · have := lo x hx; omega
    · cases o with
      | none => cases hx
      | some v => rw [List.mem_singleton.1 hx]; exact hy'
theorem RelA.nil : RelA ([] : List (Nat × α)) [] := ⟨List.nodup_nil, List.Pairwise.nil, fun _ => rfl⟩
theorem RelA.del {ms ls : List (Nat × α)} (h : RelA ms ls) (i : Nat) : RelA (delR i ms) (putA i none ls) :=
  ⟨by rw [keys_del i h.nodup]; exact h.nodup.filter _, putA_rise h.rise, fun j => by rw [look_del _ _ h.nodup, look_putA, h.same]⟩
theorem RelA.set {ms ls : List (Nat × α)} (h : RelA ms ls) (i : Nat) (x : α) : RelA (updR i x (delR i ms)) (putA i (some x) ls) := by
  have hd : (keysOf (delR i ms)).Nodup := by rw [keys_del i h.nodup]; exact h.nodup.filter _
  refine ⟨nodup_upd i x hd, putA_rise h.rise, fun j => ?_⟩
  rw [look_upd, look_del _ _ h.nodup, look_putA, h.same]
  by_cases e : j = i <;> simp [e]
theorem RelA.cut {ms ls : List (Nat × α)} (h : RelA ms ls) (q : Nat) : RelA (ms.filter fun p => decide (p.1 < q)) (loA q ls) :=
  ⟨keys_filter _ h.nodup, h.rise.sublist List.filter_sublist, fun j => by
    have h2 : look j (loA q ls) = if decide (j < q) = true then look j ls else none := look_filterA (fun n => decide (n < q)) j ls
    rw [look_filterA (fun n => decide (n < q)) j ms, h2, h.same]⟩
theorem RelA.len {ms ls : List (Nat × α)} (h : RelA ms ls) : ms.length = ls.length := by
  have hn : (ls.map (·.1)).Nodup := List.pairwise_map.2 (h.rise.imp fun {a b} hab => Nat.ne_of_lt hab)
  have hp : (keysOf ms).Perm (ls.map (·.1)) := by
    refine (List.perm_ext_iff_of_nodup h.nodup hn).2 fun x => ?_
    have h1 : x ∈ keysOf ms ↔ look x ms ≠ none := by rw [ne_eq, look_none]; exact Decidable.not_not.symm
    have h2 : x ∈ ls.map (·.1) ↔ look x ls ≠ none := by
      have : look x ls = none ↔ x ∉ keysOf ls := look_none
      rw [ne_eq, this]; exact Decidable.not_not.symm
    rw [h1, h2, h.same]
  have := hp.length_eq
  rwa [keys_len, List.length_map] at this
end
end Go.E
namespace Go.E
set_option linter.unusedVariables false
structure Order where
  kind : Int
  xs : List Nat
  ss : List Sealed
  blocks : Nat
def epOk (e : Nat) : Prop := 1 ≤ e ∧ e < 18446744073709551615
instance (e : Nat) : Decidable (epOk e) := inferInstanceAs (Decidable (_ ∧ _))
def rightO (o : Order) : Prop := (o.kind = 1 ∧ o.blocks = 0 ∧ idxOk 32 o.xs ∧ o.ss.length = o.xs.length ∧ ∀ s ∈ o.ss, epOk s.ep ∧ s.ep = (o.ss.getD 0 zeroS).ep) ∨ (o.kind = 2 ∧ o.blocks = 0 ∧ idxOk 32 o.xs ∧ o.ss.length = 0) ∨ (o.kind = 3 ∧ o.xs.length = 0 ∧ o.ss.length = 0 ∧ okN o.blocks)
instance (o : Order) : Decidable (rightO o) := inferInstanceAs (Decidable (_ ∨ _ ∨ _))
def fitsO (o : Order) (blocks : Nat) : Prop := rightO o ∧ ∀ x ∈ o.xs, x < blocks
instance (o : Order) (b : Nat) : Decidable (fitsO o b) := inferInstanceAs (Decidable (_ ∧ _))
end Go.E
namespace Go.E
set_option linter.unusedVariables false
theorem sealS_len (ss : List Sealed) : (ss.flatMap sealL).length = ss.length * 49 := by
  induction ss with
  | nil => rfl
  | cons t ts ih => rw [List.flatMap_cons, List.length_append, ih, sealL_length, List.length_cons]; omega
theorem sealS_at {ss : List Sealed} {k i : Nat} (h : k < ss.length) (hi : i = k * 49) : ∀ j v, (sealL (ss.getD k zeroS))[j]? = some v → (ss.flatMap sealL)[i + j]? = some v := fun j v hj => by
  subst hi
  exact flat_at (encL := sealL) (sz := 49) sealL_length ss k _ (getD_some zeroS h) j v hj
theorem sealL_one (x : Sealed) : (sealL x).all (·.oneCell') = true := by
  refine List.all_eq_true.2 fun u hu => ?_
  rcases List.mem_cons.1 hu with rfl | hu
  · rfl
  · rcases List.mem_append.1 hu with hu | hu
    · exact bytesL_one x.data.1 u hu
    · exact bytesL_one x.tag.1 u hu
def sv (x : Sealed) : Value := .agg (sealL x).toArray
theorem sealM {ss : List Sealed} {k : Nat} (h : k < ss.length) : ss.getD k zeroS ∈ ss := by
  rw [show ss.getD k zeroS = ss[k] by simp [List.getD, h]]; exact List.getElem_mem h
/-- What is odd in a sealed block of an order. -/
def oddS (ss : List Sealed) (x : Sealed) : Bool := decide (¬ epOk x.ep ∨ x.ep ≠ (ss.getD 0 zeroS).ep)
theorem right_1 {k : Int} {xs : List Nat} {ss : List Sealed} {b : Nat} (h1 : k = 1) (h2 : b = 0) (h3 : idxOk 32 xs) (h4 : ss.length = xs.length) (h5 : ∀ s ∈ ss, oddS ss s = false) : rightO ⟨k, xs, ss, b⟩ := by
  refine .inl ⟨h1, h2, h3, h4, fun s hs => ?_⟩
  have := of_decide_eq_false (h5 s hs)
  exact ⟨Decidable.byContradiction fun h => this (.inl h), Decidable.byContradiction fun h => this (.inr h)⟩
theorem right_odd {k : Int} {xs : List Nat} {ss : List Sealed} {b : Nat} (h1 : k = 1) (h5 : ∃ s ∈ ss, oddS ss s = true) : ¬ rightO ⟨k, xs, ss, b⟩ := by
  rintro (⟨a, b, c, d, e⟩ | ⟨a, _⟩ | ⟨a, _⟩)
  · obtain ⟨s, hs, ho⟩ := h5
    rcases of_decide_eq_true ho with h | h
    · exact h (e s hs).1
    · exact h (e s hs).2
  · have : k = 2 := a; omega
  · have : k = 3 := a; omega
/-- The numbers of an order as a value. -/
def orderV (A : Option Addr) (c : Nat) (B : Option Addr) (d : Nat) (o : Order) : List Value := [.int .i64 o.kind, .slice A o.xs.length c, .slice B o.ss.length d, .int .u64 (o.blocks : Int)]
/-- What a reply to a change is held against, by the tree's values. -/
def stepP (leaf : Nat → H32) (node : Nat × Nat → H32) (path : Nat → List H32) (n : Nat) (o : Order) (err : Int) (pa pb : List H32) : List Pr :=
  if err ≠ 0 ∨ ¬ fitsO o n then [] else if o.kind ≠ 3 then pairX (openQ (hgt n : Int) o.xs (o.xs.map leaf) ((spots (hgt n) o.xs 0).map node)) (openQ (hgt n : Int) o.xs pa pb)
  else if o.blocks < n ∧ pa.length = 1 then pairX (pathQ (leaf (o.blocks - 1)) (o.blocks - 1) (path (o.blocks - 1))) (pathQ (pa.getD 0 zeroH) (o.blocks - 1) pb) else []
theorem fitsO_idx {o : Order} {n : Nat} (h : fitsO o n) (hk : o.kind ≠ 3) : idxOk 32 o.xs := by
  rcases h.1 with ⟨_, _, c, _⟩ | ⟨_, _, c, _⟩ | ⟨a, _⟩
  · exact c
  · exact c
  · exact absurd a hk
theorem fitsO_hgt {o : Order} {n : Nat} (hn : okN n) (h : fitsO o n) (hk : o.kind ≠ 3) : idxOk (hgt n) o.xs := by
  have h1 := fitsO_idx h hk
  refine ⟨h1.1, h1.2.1, fun j hj => ⟨?_, (h1.2.2 j hj).2⟩⟩
  have := h.2 _ (getD_mem 0 hj)
  have := hgt_lt hn
  omega
theorem fitsO_blocks {o : Order} {n : Nat} (h : fitsO o n) (hk : o.kind = 3) : okN o.blocks := by
  rcases h.1 with ⟨a, _⟩ | ⟨a, _⟩ | ⟨_, _, _, d⟩
  · rw [hk] at a; exact absurd a (by decide)
  · rw [hk] at a; exact absurd a (by decide)
  · exact d
theorem stepP_bad {leaf : Nat → H32} {node : Nat × Nat → H32} {path : Nat → List H32} {n : Nat} {o : Order} {err : Int} {pa pb : List H32} (h : err ≠ 0 ∨ ¬ fitsO o n) : stepP leaf node path n o err pa pb = [] := if_pos h
theorem stepP_open {leaf : Nat → H32} {node : Nat × Nat → H32} {path : Nat → List H32} {n : Nat} {o : Order} {err : Int} {pa pb : List H32} (h1 : ¬ err ≠ 0) (h2 : fitsO o n) (h3 : o.kind ≠ 3) : stepP leaf node path n o err pa pb = pairX (openQ (hgt n : Int) o.xs (o.xs.map leaf) ((spots (hgt n) o.xs 0).map node)) (openQ (hgt n : Int) o.xs pa pb) := by
  rw [stepP, if_neg (fun h => h.elim h1 (fun k => k h2)), if_pos h3]
theorem stepP_path {leaf : Nat → H32} {node : Nat × Nat → H32} {path : Nat → List H32} {n : Nat} {o : Order} {err : Int} {pa pb : List H32} (h1 : ¬ err ≠ 0) (h2 : fitsO o n) (h3 : ¬ o.kind ≠ 3) (h4 : o.blocks < n) (h5 : pa.length = 1) : stepP leaf node path n o err pa pb = pairX (pathQ (leaf (o.blocks - 1)) (o.blocks - 1) (path (o.blocks - 1))) (pathQ (pa.getD 0 zeroH) (o.blocks - 1) pb) := by
  rw [stepP, if_neg (fun h => h.elim h1 (fun k => k h2)), if_neg h3, if_pos ⟨h4, h5⟩]
theorem stepP_no {leaf : Nat → H32} {node : Nat × Nat → H32} {path : Nat → List H32} {n : Nat} {o : Order} {err : Int} {pa pb : List H32} (h1 : ¬ err ≠ 0) (h2 : fitsO o n) (h3 : ¬ o.kind ≠ 3) (h4 : ¬ (o.blocks < n ∧ pa.length = 1)) : stepP leaf node path n o err pa pb = [] := by
  rw [stepP, if_neg (fun h => h.elim h1 (fun k => k h2)), if_neg h3, if_neg h4]
theorem Qt.build3 {C : Ctx} {env : Env} {L : List Assn} {T ty : TypeId} {dst : Option Tmp} {pos : String} {after : Array Edge} {guard : Option (Nat × Bool)} {i j k : Nat} {x y z : Operand} {a b c v : Value} (hx : env.ev x = a) (hy : env.ev y = b) (hz : env.ev z = c)
    (h : ∀ w, (Instr.build T #[(i, a), (j, b), (k, c)]).run C.P w = .ok v w) : Qt C L ⟨dst, .build T #[(i, x), (j, y), (k, z)], ty, pos, after, guard⟩ env v := Qt.build (ps := #[(i, a), (j, b), (k, c)]) (by simp [hx, hy, hz]) h
end Go.E
namespace Go.E
set_option linter.unusedVariables false
def TxLe (X : Option (List (List UInt8))) : Prop := ∀ xs, X = some xs → ∀ t ∈ xs, t.length ≤ 70368744177664
theorem pairX_le {X1 X2 : Option (List (List UInt8))} (h1 : TxLe X1) (h2 : TxLe X2) : ∀ p ∈ pairX X1 X2, p.1.length ≤ 70368744177664 ∧ p.2.length ≤ 70368744177664 := fun p hp => by
  cases X1 with
  | none => cases hp
  | some a => cases X2 with
    | none => cases hp
    | some b =>
      have hp' : p ∈ zipX a b := hp
      unfold zipX at hp'
      split at hp'
      · have := List.of_mem_zip (a := p.1) (b := p.2) hp'
        exact ⟨h1 a rfl _ this.1, h2 b rfl _ this.2⟩
      · cases hp'
theorem PxLe.of {ps : List Px} {E : List Pr} (e : ps.map pxT = E) (h : ∀ p ∈ E, p.1.length ≤ 70368744177664 ∧ p.2.length ≤ 70368744177664) : PxLe ps := fun p hp => h (pxT p) (e ▸ List.mem_map_of_mem hp)
theorem PxRo.many {C : Ctx} {L Ls : List Assn} {ps : List Px} (h : Rd C L (Many Ls)) (hm : ∀ p ∈ ps, txOwn p.1 ∈ Ls ∧ txOwn p.2 ∈ Ls) {w : World} (hw : St C.w0 C.M L w) : PxRo w [] ps := fun p hp =>
  ⟨Rd.own (e := 5) (sz := 1) (Rd.many h (hm p hp).1) w hw, Rd.own (e := 5) (sz := 1) (Rd.many h (hm p hp).2) w hw⟩
theorem ro_none (w : World) : Ro w [] (SlA none []) := ⟨fun j u hj => by simp at hj, fun b hb => by rw [SlA_fp] at hb; obtain ⟨x, hx, _⟩ := mem_slfp hb; cases hx⟩
theorem alive32_fits : fitsO ⟨2, [0, 1], [], 0⟩ 2 := by decide
theorem alive32_eq (leaf : Nat → H32) (node : Nat × Nat → H32) (path : Nat → List H32) : stepP leaf node path 2 ⟨2, [0, 1], [], 0⟩ 0 [zeroH, zeroH] [] = [(joinT 1 (leaf 0) (leaf 1), joinT 1 zeroH zeroH)] := by
  rw [stepP_open (by decide) alive32_fits (by decide)]
  have h2 : hgt 2 = 1 := by decide
  rw [h2]
  have hi : idxOk 1 [0, 1] := by decide
  show pairX (openQ ((1 : Nat) : Int) [0, 1] _ _) (openQ ((1 : Nat) : Int) [0, 1] _ _) = _
  have hs : spots 1 [0, 1] 0 = [] := by decide
  show pairX (openQ ((1 : Nat) : Int) [0, 1] [leaf 0, leaf 1] ((spots 1 [0, 1] 0).map node)) (openQ ((1 : Nat) : Int) [0, 1] [zeroH, zeroH] []) = _
  rw [hs, openQ_T (by decide) hi rfl (by rw [hs]; rfl), openQ_T (by decide) hi rfl (by rw [hs]; rfl)]
  rfl
end Go.E
namespace Go.E
set_option linter.unusedVariables false
theorem Ro.sealD {w : World} {M : List Nat} {b : Nat} {T : TypeId} {x : Sealed} (h : Ro w M (Blk b T (sealL x))) : Ro w M (SlA (some ⟨b, 1, none⟩) (bytesL x.data.1)) := by
  have k := Ro.part (Ro.blk h) 1 32
  rw [sealL_data] at k
  simpa [add_cell] using k
theorem Ro.sealT {w : World} {M : List Nat} {b : Nat} {T : TypeId} {x : Sealed} (h : Ro w M (Blk b T (sealL x))) : Ro w M (SlA (some ⟨b, 33, none⟩) (bytesL x.tag.1)) := by
  have k := Ro.part (Ro.blk h) 33 16
  rw [sealL_tag] at k
  simpa [add_cell] using k
/-- The digits of a number that are written so far, from behind. -/
def digL (n s k : Nat) : List Value := List.replicate (s - k) (.int .u8 0) ++ bytesL ((numB n s).drop (s - k))
theorem digL_zero (n s : Nat) : digL n s 0 = List.replicate s (.int .u8 0) := by
  unfold digL
  rw [Nat.sub_zero, List.drop_of_length_le (by rw [numB_length]; exact Nat.le_refl _)]
  simp [bytesL]
theorem digL_all (n s : Nat) : digL n s s = bytesL (numB n s) := by
  unfold digL
  rw [Nat.sub_self]; simp
theorem digL_len (n s k : Nat) (h : k ≤ s) : (digL n s k).length = s := by
  unfold digL
  rw [List.length_append, List.length_replicate, bytesL_length, List.length_drop, numB_length]; omega
theorem numB_drop {n s k : Nat} (h : k < s) : (numB n s).drop (s - 1 - k) = UInt8.ofNat (n / 2 ^ (8 * k)) :: (numB n s).drop (s - k) := by
  have hl : s - 1 - k < (numB n s).length := by rw [numB_length]; omega
  rw [List.drop_eq_getElem_cons hl, show s - 1 - k + 1 = s - k by omega]
  congr 1
  simp only [numB, List.getElem_map, List.getElem_range]
  rw [show s - 1 - (s - 1 - k) = k by omega]
theorem digL_set {n s k : Nat} (h : k < s) (u : UInt8) (hu : u = UInt8.ofNat (n / 2 ^ (8 * k))) : (digL n s k).set (s - 1 - k) (.int .u8 ((u.toNat : Nat) : Int)) = digL n s (k + 1) := by
  subst hu
  unfold digL
  rw [List.set_append_left _ _ (by rw [List.length_replicate]; omega)]
  rw [show s - (k + 1) = s - 1 - k by omega, numB_drop h]
  have : List.replicate (s - k) (Value.int .u8 0) = List.replicate (s - 1 - k) (.int .u8 0) ++ [.int .u8 0] := by
    rw [show s - k = (s - 1 - k) + 1 by omega, List.replicate_succ']
  rw [this, List.set_append_right _ _ (by rw [List.length_replicate]; exact Nat.le_refl _), List.length_replicate, Nat.sub_self]
  simp [bytesL]
theorem dig_step (n k : Nat) : n / 2 ^ (8 * k) / 256 = n / 2 ^ (8 * (k + 1)) := by
  rw [Nat.div_div_eq_div_mul, Nat.mul_add, Nat.pow_add]
/-- Items as texts, or nothing. -/
def itemQ (xs : List Nat) (l : List Item) : Option (List (List UInt8)) := if l.length = xs.length ∧ ∀ x ∈ xs, x < 4294967296 then some (itemT xs l) else none
theorem itemQ_T {xs : List Nat} {l : List Item} (h1 : l.length = xs.length) (h2 : ∀ x ∈ xs, x < 4294967296) : itemQ xs l = some (itemT xs l) := if_pos ⟨h1, h2⟩
theorem itemQ_F {xs : List Nat} {l : List Item} (h : ¬ (l.length = xs.length ∧ ∀ x ∈ xs, x < 4294967296)) : itemQ xs l = none := if_neg h
theorem itemX_len (i : Nat) (x : Item) : (itemX i x).length ≤ 61 := by
  unfold itemX; split
  · rw [leafX_length]; exact Nat.le_refl _
  · decide
theorem itemQ_le (xs : List Nat) (l : List Item) : TxLe (itemQ xs l) := fun ys h t ht => by
  unfold itemQ at h
  split at h
  · injection h with h
    subst h
    obtain ⟨k, _, rfl⟩ := List.mem_map.1 ht
    have := itemX_len (xs.getD k 0) (l.getD k item0)
    omega
  · cases h
theorem items_len (l : List Item) : (l.flatMap itemL).length = l.length * 50 := by
  induction l with
  | nil => rfl
  | cons t ts ih => rw [List.flatMap_cons, List.length_append, ih, itemL_length, List.length_cons]; omega
theorem items_at {l : List Item} {k i : Nat} (h : k < l.length) (hi : i = k * 50) : ∀ j v, (itemL (l.getD k item0))[j]? = some v → (l.flatMap itemL)[i + j]? = some v := fun j v hj => by
  subst hi
  exact flat_at (encL := itemL) (sz := 50) itemL_length l k _ (getD_some item0 h) j v hj
theorem itemL_one (x : Item) : (itemL x).all (·.oneCell') = true := by
  rw [itemL, List.all_cons, sealL_one]; rfl
theorem itemL_seal (x : Item) : ∀ j v, (sealL x.s)[j]? = some v → (itemL x)[1 + j]? = some v := fun j v h => by
  rw [itemL, Nat.add_comm 1 j, List.getElem?_cons_succ]; exact h
theorem item_take {l : List Item} {k : Nat} (h : k < l.length) : (l.take (k + 1)).flatMap itemL = (l.take k).flatMap itemL ++ itemL (l.getD k item0) := by
  rw [List.take_succ_eq_append_getElem h, List.flatMap_append, show l.getD k item0 = l[k] by simp [List.getD, h]]; simp
/-- The hashes of items. -/
def itemH (xs : List Nat) (l : List Item) (k : Nat) : List H32 := (List.range k).map fun i => shaH (itemX (xs.getD i 0) (l.getD i item0))
theorem itemH_succ (xs : List Nat) (l : List Item) (k : Nat) : itemH xs l (k + 1) = itemH xs l k ++ [shaH (itemX (xs.getD k 0) (l.getD k item0))] := by
  rw [itemH, List.range_succ, List.map_append]; rfl
theorem itemH_len (xs : List Nat) (l : List Item) (k : Nat) : (itemH xs l k).length = k := by simp [itemH]
/-- Are the items that are there in range? -/
def inR (xs : List Nat) (l : List Item) (k : Nat) : Prop := ∀ i, i < k → (l.getD i item0).there = true → xs.getD i 0 < 4294967296
theorem u8_mod (m : Nat) : UInt8.ofNat (m % 256) = UInt8.ofNat m := by
  apply UInt8.toNat_inj.1
  simp [UInt8.toNat_ofNat']
section
variable {C : Ctx} {Q : EQ} {env : Env} {ops : Array Oper} {L : List Assn}
theorem TL.shutOwn {l : List Oper} {L0 L : List Assn} {e : TypeId} {sz g n c : Nat} {cs : List Value} (hl : cs.length = c * sz) (hn : n ≤ c) (hm : c ≤ maxLen) (s : L0.Perm (Blk g e cs :: L)) (h : TL C ops Q l env (OwnA e sz (some ⟨g, 0, none⟩) n c (cs.take (n * sz)) :: L)) : TL C ops Q l env L0 :=
  fun a w ha hw => h a w ha ((hw.perm s).shutOwn hl hn hm)
theorem Rd.sealD {b : Nat} {T : TypeId} {x : Sealed} (h : Rd C L (Blk b T (sealL x))) : Rd C L (SlA (some ⟨b, 1, none⟩) (bytesL x.data.1)) := fun w hw => Ro.sealD (h w hw)
theorem Rd.sealT {b : Nat} {T : TypeId} {x : Sealed} (h : Rd C L (Blk b T (sealL x))) : Rd C L (SlA (some ⟨b, 33, none⟩) (bytesL x.tag.1)) := fun w hw => Ro.sealT (h w hw)
end
section
variable {C : Ctx} {env : Env} {L : List Assn} {dst : Option Tmp} {ty : TypeId} {pos : String} {after : Array Edge} {guard : Option (Nat × Bool)} {x y : Operand} {T e : TypeId}
theorem Qt.index_row {N i sz : Nat} {ki : IntKind} {cs : List Value} (ht : C.P.underlying T = some (.array N e)) (hr : rowT C.P e = true) (hs : (C.P.info? e).map (·.size) = some sz) (hx : env.ev x = .agg cs.toArray) (hy : env.ev y = .int ki (i : Int)) (hi : i < N) :
    Qt C L ⟨dst, .index T x y, ty, pos, after, guard⟩ env (.agg ((cs.drop (i * sz)).take sz).toArray) := fun w _ => by
  have h1 := run_part_agg (P := C.P) (w := w) (e := e) (off := i * sz) (xs := cs) hr hs
  obtain ⟨inf, hin, hsz⟩ := Option.map_eq_some_iff.1 hs
  subst hsz
  simp [execOp, hx, hy, Instr.index, asIntOf, run_underlying ht, sizeOf, typeInfo, hin, hi, h1]
end
theorem hcs_part1 {l : List H32} {i : Nat} (h : i < l.length) : ((hcs l).drop (i * 32)).take 32 = hvl (l.getD i zeroH) := by
  have hd : (hcs l).drop (i * 32) = hcs (l.drop i) := hcs_drop ..
  rw [hd, List.drop_eq_getElem_cons h, show l.getD i zeroH = l[i] by simp [List.getD, h]]
  show (hvl l[i] ++ hcs (l.drop (i + 1))).take 32 = _
  rw [List.take_left' (hvl_length _)]
/-- The pairs of items, one by one. -/
def itemPr (xs : List Nat) (a b : List Item) (i : Nat) : Pr := (itemX (xs.getD i 0) (a.getD i item0), itemX (xs.getD i 0) (b.getD i item0))
theorem itemP_all {xs : List Nat} {a b : List Item} (h1 : a.length = xs.length) (h2 : b.length = xs.length) (h : ∀ x ∈ xs, x < 4294967296) : pairX (itemQ xs a) (itemQ xs b) = (List.range xs.length).map (itemPr xs a b) := by
  rw [itemQ_T h1 h, itemQ_T h2 h]
  show zipX _ _ = _
  rw [zipX_eq (by rw [itemT_len, itemT_len])]
  unfold itemT
  rw [List.zip_map']
  rfl
theorem itemP_none {xs : List Nat} {a b : List Item} (h : ¬ (a.length = xs.length ∧ b.length = xs.length ∧ ∀ x ∈ xs, x < 4294967296)) : pairX (itemQ xs a) (itemQ xs b) = [] := by
  by_cases h1 : a.length = xs.length ∧ ∀ x ∈ xs, x < 4294967296
  · rw [itemQ_F (l := b) (fun k => h ⟨h1.1, k.1, h1.2⟩)]
    cases itemQ xs a <;> rfl
  · rw [itemQ_F (l := a) h1]; rfl
theorem low_all {xs : List Nat} {k : Nat} (hk : k = xs.length) (h : ∀ j, j < k → xs.getD j 0 < 4294967296) : ∀ x ∈ xs, x < 4294967296 := fun x hx => by
  subst hk
  obtain ⟨j, hj, rfl⟩ := List.mem_iff_getElem.1 hx
  have := h j hj
  simpa [List.getD, hj] using this
theorem item_flat (b : Bool) (x : Sealed) : [Value.bool b, .agg (sealL x).toArray].flatMap vl = itemL ⟨b, x⟩ := by
  show [Value.bool b] ++ (sealL x ++ []) = _
  rw [List.append_nil]; rfl
theorem bne_dec (a b : Bool) : (a != b) = decide (a ≠ b) := by cases a <;> cases b <;> rfl
theorem there_dec (a : Bool) : Value.bool a = Value.bool (decide (a = true)) := by cases a <;> rfl
theorem items_seal {l : List Item} {k i : Nat} (h : k < l.length) (hi : i = k * 50 + 1) : ∀ j v, (sealL (l.getD k item0).s)[j]? = some v → (l.flatMap itemL)[i + j]? = some v := fun j v hj => by
  subst hi
  have := items_at h rfl (1 + j) v (itemL_seal _ j v hj)
  rwa [← Nat.add_assoc] at this
theorem items_take (l : List Item) (m : Nat) : (l.flatMap itemL).take (m * 50) = (l.take m).flatMap itemL := by
  induction l generalizing m with
  | nil => simp
  | cons a l ih =>
    cases m with
    | zero => simp
    | succ m =>
      rw [List.flatMap_cons, List.take_succ_cons, List.flatMap_cons, List.take_append, List.take_of_length_le (by rw [itemL_length]; omega), itemL_length, show (m + 1) * 50 - 50 = m * 50 by omega, ih]
theorem itemH_hcs (xs : List Nat) (l : List Item) (k : Nat) : hcs (itemH xs l (k + 1)) = hcs (itemH xs l k) ++ hvl (shaH (itemX (xs.getD k 0) (l.getD k item0))) := by
  rw [itemH_succ]; simp [hcs]
theorem inR_succ {xs : List Nat} {l : List Item} {k : Nat} (h : inR xs l k) (h1 : (l.getD k item0).there = true → xs.getD k 0 < 4294967296) : inR xs l (k + 1) := fun i hi ht => by
  rcases Nat.lt_or_ge i k with g | g
  · exact h i g ht
  · obtain rfl : i = k := by omega
    exact h1 ht
/-- Lists of items that are the same, as far as they are there. -/
def alikeA (a b : List Item) : Prop := a.length = b.length ∧ ∀ i, i < a.length → alikeI (a.getD i item0) (b.getD i item0)
theorem items_plc {xs : List Nat} {a b : List Item} {pp : List Px} (e : pp.map pxT = pairX (itemQ xs a) (itemQ xs b)) (h1 : a.length = xs.length) (h2 : b.length = xs.length) (hp : pp.length = xs.length) (hh : itemH xs a xs.length = itemH xs b xs.length) (hn : ¬ alikeA a b) : plc (pp.map pxT) < pp.length := by
  have hx : ∀ x ∈ xs, x < 4294967296 := by
    refine Decidable.byContradiction fun hc => hn ⟨by omega, fun i hi => ?_⟩
    rw [itemP_none (fun k => hc k.2.2)] at e
    have hz : pp.length = 0 := by
      have := congrArg List.length e
      rw [List.length_map] at this
      exact this
    omega
  have hf := items_find (xs := xs) (a := a) (b := b) (fun i hi => by
    have := congrArg (fun l : List H32 => l[i]?) hh
    simpa [itemH, hi] using this) (fun k => hn ⟨by omega, fun i hi => k i (by omega)⟩)
  have := plc_find (l := pp.map pxT) (by
    rw [e, itemQ_T h1 hx, itemQ_T h2 hx]
    show ∃ p ∈ zipX _ _, _
    rw [zipX_eq (by rw [itemT_len, itemT_len])]; exact hf)
  rwa [List.length_map] at this
theorem items_hh {xs : List Nat} {a b : List Item} (h1 : a.length = xs.length) (h2 : b.length = xs.length)
    (h : itemH xs (a.take (min a.length xs.length)) (min a.length xs.length) = itemH xs (b.take (min b.length xs.length)) (min b.length xs.length)) : itemH xs a xs.length = itemH xs b xs.length := by
  have e1 : min a.length xs.length = xs.length := by omega
  have e2 : min b.length xs.length = xs.length := by omega
  rw [e1, e2, List.take_of_length_le (by omega), List.take_of_length_le (by omega)] at h
  exact h
end Go.E
