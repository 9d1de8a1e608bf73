/-
  Lists of lists of hashes, put one behind the other; a level's texts. The texts of a side, or none; what a row is read from. The nodes under a level of a side.
-/
import Derived.Test.YtgdjcmehlhebdaaGreatDoorXQ
import Derived.Test.YtgdjcmehlhebdaaGreatDoorXS
import Derived.Test.YtgdjcmehlhebdaaGreatDoorSH
import Derived.Test.YtgdjcmehlhebdaaGreatDoorP1
import Derived.Test.YtgdjcmehlhebdaaGreatDoorTR
namespace Go.E
set_option linter.unusedVariables false
abbrev Hx := Option Addr × Nat × List H32
def hx0 : Hx := (none, 0, [])
def hxL (t : Hx) : List Value := [.slice t.1 t.2.2.length t.2.1]
theorem hx_len (ss : List Hx) : (ss.flatMap hxL).length = ss.length := by
  induction ss with
  | nil => rfl
  | cons t ts ih => rw [List.flatMap_cons, List.length_append, ih]; simp [hxL]; omega
theorem hx_at {ss : List Hx} {k : Nat} (h : k < ss.length) : (ss.flatMap hxL)[k * 1]? = some (.slice (ss.getD k hx0).1 (ss.getD k hx0).2.2.length (ss.getD k hx0).2.1) := by
  have := flat_at (encL := hxL) (sz := 1) (fun _ => rfl) ss k _ (getD_some hx0 h) 0 _ rfl
  rwa [Nat.add_zero] at this
/-- The first k of them, one behind the other. -/
def cat (ss : List Hx) (k : Nat) : List H32 := (ss.take k).flatMap fun t => t.2.2
theorem cat_succ {ss : List Hx} {k : Nat} (h : k < ss.length) : cat ss (k + 1) = cat ss k ++ (ss.getD k hx0).2.2 := by
  unfold cat
  rw [List.take_succ_eq_append_getElem h, List.flatMap_append]
  simp [List.getD, h]
theorem cat_len {ss : List Hx} {k : Nat} (h : k < ss.length) : (cat ss (k + 1)).length = (cat ss k).length + (ss.getD k hx0).2.2.length := by rw [cat_succ h, List.length_append]
theorem cat_le (ss : List Hx) : ∀ {j k : Nat}, j ≤ k → k ≤ ss.length → (cat ss j).length ≤ (cat ss k).length
  | j, k, h, hk => by
    obtain ⟨d, rfl⟩ := Nat.le.dest h
    clear h
    induction d with
    | zero => exact Nat.le_refl _
    | succ d ih => have := cat_len (ss := ss) (k := j + d) (by omega); have := ih (by omega); rw [← Nat.add_assoc]; omega
theorem finRange_vals {α : Type} (m : Nat) (g : Nat → α) : (List.finRange m).map (fun i : Fin m => g i.val) = (List.range m).map g := by
  refine List.ext_getElem (by simp) fun i h1 h2 => by simp
end Go.E
namespace Go.E
set_option linter.unusedVariables false
/-- The texts that are joined for a side, if it comes to a root. -/
def sideQ (z : Int) (f : Nat) (ls left right : List H32) : Option (List (List UInt8)) := if (spanR z f ls left right).2 = 0 then some (sideX f ls.length z.toNat ls left right z.toNat) else none
theorem Ro.inMany {w : World} {M : List Nat} {A : Assn} {Ls : List Assn} (h : Ro w M (Many Ls)) (hA : A ∈ Ls) : Ro w M A := ⟨h.1 A hA, fun b hb => h.2 b (mem_fps.2 ⟨A, hA, hb⟩)⟩
theorem rowRd {C : Ctx} {L Ls : List Assn} {e : TypeId} {sz n c : Nat} {A : Option Addr} {cs : List Value} (h : Rd C L (Many Ls)) (hx : OwnA e sz A n c cs ∈ Ls ∨ Ro C.w0 C.M (SlA A cs)) : Rd C L (SlA A cs) := hx.elim (fun m => (h.many m).own) Rd.ro
theorem rowPre {w0 w : World} {M : List Nat} {Pre R Ls : List Assn} {e : TypeId} {sz n c : Nat} {A : Option Addr} {cs : List Value} (hw : St w0 M (Pre ++ R) w) (hm : Many Ls ∈ R) (hx : OwnA e sz A n c cs ∈ Ls ∨ Ro w0 M (SlA A cs)) : Ro w (fps Pre) (SlA A cs) := hx.elim (fun m => ((Ro.of_rest hw hm).inMany m).own) (Ro.of_pre hw)
theorem TL.manyOne {C : Ctx} {Q : EQ} {env : Env} {ops : Array Oper} {l : List Oper} {A : Assn} {L : List Assn} (h : TL C ops Q l env (Many [A] :: L)) : TL C ops Q l env (A :: L) := fun a w ha hw => h a w ha (St.many.2 hw)
theorem two_in {a x y : Value} : ∀ j v, [x, y][j]? = some v → [a, x, y][1 + j]? = some v := fun j v h => by rw [Nat.add_comm]; exact h
theorem hcs_take1 {l : List H32} {i : Nat} (h : i < l.length) : (hcs (l.drop i)).take 32 = hcs [l.getD i zeroH] := by
  rw [List.drop_eq_getElem_cons h, hcs_cons, List.take_left' (hvl_length _)]
  simp [hcs, List.getD, h]
theorem two_slices {x y : Value} (hx : (vl x).length = 1) (hy : (vl y).length = 1) : ∀ v ∈ [x, y], (vl v).length = 1 := fun v hv => (List.mem_cons.1 hv).elim (fun e => e ▸ hx) (fun h => List.mem_singleton.1 h ▸ hy)
theorem side_texts_len {f n h k : Nat} {ls left right : List H32} {tt : List Tx} (h1 : 1 ≤ n) (h2 : n ≤ 256) (hk : k ≤ 32) (e : tt.map (fun t => t.2.2) = sideX f n h ls left right k) : tt.length ≤ 8192 := by
  have a := congrArg List.length e
  rw [List.length_map] at a
  have b := sideX_len (f := f) (h := h) h1 ls left right k
  have c : n * k ≤ 256 * 32 := Nat.mul_le_mul h2 hk
  omega
theorem sideQ_le (z : Int) (f : Nat) (ls left right : List H32) : TxLe (sideQ z f ls left right) := fun xs h t ht => by
  unfold sideQ at h
  split at h
  · obtain rfl := Option.some.inj h
    unfold sideX at ht
    obtain ⟨k, _, hk⟩ := List.mem_flatMap.1 ht
    obtain ⟨i, _, rfl⟩ := List.mem_map.1 hk
    rw [joinT_length]; decide
  · cases h
end Go.E
namespace Go.E
set_option linter.unusedVariables false
variable {f n h : Nat} {ls left right : List H32}
theorem side_bound (c : RowCtx f n h ls left right) {j i : Nat} (hi : f / 2 ^ (j + 1) + i ≤ (f + n - 1) / 2 ^ (j + 1)) : f / 2 ^ (j + 1) + i < 2 ^ h := by
  have h1 := Nat.div_le_self (f + n - 1) (2 ^ (j + 1))
  have h2 := c.fit
  have h3 := c.n1
  omega
theorem side_ok (c : RowCtx f n h ls left right) {j i : Nat} (hj : j < h) (hi : f / 2 ^ (j + 1) + i ≤ (f + n - 1) / 2 ^ (j + 1)) : okAt h (j, 2 * (f / 2 ^ (j + 1) + i)) ∧ okAt h (j, 2 * (f / 2 ^ (j + 1) + i) + 1) := by
  refine okAt_kids ⟨hj, ?_⟩
  show f / 2 ^ (j + 1) + i < 2 ^ (h - (j + 1))
  refine Nat.lt_of_le_of_lt hi (Nat.div_lt_of_lt_mul ?_)
  rw [← Nat.pow_add, show j + 1 + (h - (j + 1)) = h by omega]
  have h2 := c.fit
  have h3 := c.n1
  omega
theorem side_nodes (c : RowCtx f n h ls left right) {j i : Nat} (hj : j < h) (hi : f / 2 ^ (j + 1) + i ≤ (f + n - 1) / 2 ^ (j + 1)) :
    NodeOk ((sideL f h).zip left) ((sideR (f + n - 1) h).zip right) f (f + n - 1) j (2 * (f / 2 ^ (j + 1) + i)) ∧ NodeOk ((sideL f h).zip left) ((sideR (f + n - 1) h).zip right) f (f + n - 1) j (2 * (f / 2 ^ (j + 1) + i) + 1) :=
  NodeOk.kids c hj (.inl ⟨Nat.le_add_right _ _, hi⟩) (lookL_none (Nat.le_add_right _ _)) (lookR_none hi)
theorem side_mid (c : RowCtx f n h ls left right) {j i : Nat} (hj : j < h) (hi : f / 2 ^ (j + 1) + i ≤ (f + n - 1) / 2 ^ (j + 1)) :
    refN ((sideL f h).zip left) ((sideR (f + n - 1) h).zip right) ls f j (2 * (f / 2 ^ (j + 1) + i)) = (rowMd f n h ls left right j).getD (2 * i) zeroH ∧ refN ((sideL f h).zip left) ((sideR (f + n - 1) h).zip right) ls f j (2 * (f / 2 ^ (j + 1) + i) + 1) = (rowMd f n h ls left right j).getD (2 * i + 1) zeroH := by
  rw [c.mid hj, rowV_get (by omega), rowV_get (by omega)]
  exact ⟨congrArg _ (by omega), congrArg _ (by omega)⟩
/-- The first i texts of a level. -/
def rowXi (f n h : Nat) (ls left right : List H32) (k i : Nat) : List (List UInt8) := (List.range i).map fun i => joinT (k + 1) ((rowMd f n h ls left right k).getD (2 * i) zeroH) ((rowMd f n h ls left right k).getD (2 * i + 1) zeroH)
theorem rowXi_succ (f n h : Nat) (ls left right : List H32) (k i : Nat) : rowXi f n h ls left right k (i + 1) = rowXi f n h ls left right k i ++ [joinT (k + 1) ((rowMd f n h ls left right k).getD (2 * i) zeroH) ((rowMd f n h ls left right k).getD (2 * i + 1) zeroH)] := by
  unfold rowXi; rw [List.range_succ, List.map_append]; rfl
theorem rowXi_full (c : RowCtx f n h ls left right) {k i : Nat} (h1 : ¬ f / 2 ^ (k + 1) + i ≤ (f + n - 1) / 2 ^ (k + 1)) (h2 : i ≤ (f + n - 1) / 2 ^ (k + 1) + 1 - f / 2 ^ (k + 1)) : rowXi f n h ls left right k i = rowX f n h ls left right k := by
  obtain rfl : i = (f + n - 1) / 2 ^ (k + 1) + 1 - f / 2 ^ (k + 1) := by omega
  rfl
theorem rowXi_len (f n h : Nat) (ls left right : List H32) (k i : Nat) : (rowXi f n h ls left right k i).length = i := by simp [rowXi]
theorem side_count (c : RowCtx f n h ls left right) (h2 : n ≤ 256) (hh : h ≤ 32) {k i : Nat} {tt : List Tx} (hk : k < h) (hi : i ≤ (f + n - 1) / 2 ^ (k + 1) + 1 - f / 2 ^ (k + 1)) (e : tt.map (fun t => t.2.2) = sideX f n h ls left right k ++ rowXi f n h ls left right k i) : tt.length ≤ 8448 := by
  have a := congrArg List.length e
  rw [List.length_map, List.length_append, rowXi_len] at a
  have b := sideX_len (f := f) (h := h) c.n1 ls left right k
  have d : n * k ≤ 256 * 32 := Nat.mul_le_mul h2 (by omega)
  have g := (row_len_le (f := f) c.n1 (k + 1)).1
  omega
theorem side_step {a b i : Nat} (h : a + i ≤ b) : i + 1 ≤ b + 1 - a := by omega
theorem side_dec {a b i : Nat} (h : a + i ≤ b) : b + 1 - a - (i + 1) < b + 1 - a - i := by omega
end Go.E
namespace Go.E
theorem sides_find {z : Int} {f : Nat} {ls left right ls' left' right' : List H32} (h1 : (spanR z f ls left right).2 = 0) (h2 : (spanR z f ls' left' right').2 = 0) (he : (spanR z f ls left right).1 = (spanR z f ls' left' right').1) (hl : ls.length = ls'.length) (hn : ¬ (ls = ls' ∧ left = left' ∧ right = right')) {pp : List Px} (e : pp.map pxT = if ls.length = ls'.length then pairX (sideQ z f ls left right) (sideQ z f ls' left' right') else []) : plc (pp.map pxT) < pp.length := by
  have hf := side_find h1 h2 hl he hn
  unfold sideT at hf
  rw [if_pos h1, if_pos h2] at hf
  have := plc_find (l := pp.map pxT) (by rw [e, if_pos hl, sideQ, sideQ, if_pos h1, if_pos h2]; exact hf)
  rwa [List.length_map] at this
theorem sides_le {z : Int} {f : Nat} {ls left right ls' left' right' : List H32} : ∀ p ∈ (if ls.length = ls'.length then pairX (sideQ z f ls left right) (sideQ z f ls' left' right') else []), p.1.length ≤ 70368744177664 ∧ p.2.length ≤ 70368744177664 := fun p hp => by
  split at hp
  · exact pairX_le (sideQ_le _ _ _ _ _) (sideQ_le _ _ _ _ _) p hp
  · cases hp
end Go.E
