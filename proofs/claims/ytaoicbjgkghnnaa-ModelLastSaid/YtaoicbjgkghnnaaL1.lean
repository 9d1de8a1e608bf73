/-
  What came in, read as plain lists: hashes, tables, slices whose elements are flat.
-/
import Derived.Test.YtaoicbjgkghnnaaGR
import Derived.Test.YtaoicbjgkghnnaaMO
import Derived.Deep.Slices
import Derived.OpenShut
import Derived.ProofKit
import Derived.FnData
namespace Go.E
open Go.ChangeShapes Go.WideShapes Go.Deep
set_option linter.unusedVariables false
section
variable {H : Type} {enc : TypeId × Value → H} {P : Program} {w : World} {base : Nat} {spare : Nat → Bool} {held : Bool}
theorem list_choose {α : Type} {p : Nat → α → Prop} : ∀ (n : Nat), (∀ i, i < n → ∃ x, p i x) → ∃ xs : List α, xs.length = n ∧ ∀ i x, xs[i]? = some x → p i x
  | 0, _ => ⟨[], rfl, fun i x h => by simp at h⟩
  | n + 1, h => by
    obtain ⟨xs, h1, h2⟩ := list_choose n fun i hi => h i (by omega)
    obtain ⟨x, hx⟩ := h n (by omega)
    refine ⟨xs ++ [x], by simp [h1], fun i y hy => ?_⟩
    rcases Nat.lt_or_ge i xs.length with hi | hi
    · rw [List.getElem?_append_left hi] at hy; exact h2 i y hy
    · rw [List.getElem?_append_right hi] at hy
      have : i - xs.length = 0 := by
        rcases Nat.eq_zero_or_pos (i - xs.length) with h3 | h3
        · exact h3
        · rw [List.getElem?_eq_none (by simp; omega)] at hy; cases hy
      rw [this] at hy
      injection hy with hy
      subst hy
      rwa [show i = n by omega]
theorem flat_get {α : Type} {encL : α → List Value} {sz : Nat} (hpos : 0 < sz) (hlen : ∀ a, (encL a).length = sz) : ∀ (xs : List α) (j : Nat) (u : Value), (xs.flatMap encL)[j]? = some u → ∃ x, xs[j / sz]? = some x ∧ (encL x)[j % sz]? = some u
  | [], j, u, h => by simp at h
  | x :: xs, j, u, h => by
    rw [List.flatMap_cons] at h
    rcases Nat.lt_or_ge j sz with hj | hj
    · rw [List.getElem?_append_left (by rw [hlen]; exact hj)] at h
      exact ⟨x, by rw [Nat.div_eq_of_lt hj]; rfl, by rw [Nat.mod_eq_of_lt hj]; exact h⟩
    · rw [List.getElem?_append_right (by rw [hlen]; exact hj), hlen] at h
      obtain ⟨y, h1, h2⟩ := flat_get hpos hlen xs (j - sz) u h
      have e : j = (j - sz) + sz := by omega
      refine ⟨y, ?_, ?_⟩
      · rw [e, Nat.add_div_right _ hpos]; exact h1
      · rw [e, Nat.add_mod_right]; exact h2
/-- A slice whose elements are flat. -/
theorem open_flat {α : Type} {t e : TypeId} {fuel : Nat} {v : Value} {y : DataW H × List MemPlace} (encL : α → List Value) {sz : Nat} (ht : P.underlying t = some (.slice e)) (hsz : P.cellsOf e = sz) (hpos : 0 < sz) (hlen : ∀ a, (encL a).length = sz)
    (hel : ∀ n cs y, DataW.trod enc P w base spare held n e cs = some y → ∃ x, cs = encL x) (h : DataW.trod enc P w base spare held fuel t [v] = some y) :
    ∃ (A : Option Addr) (c : Nat) (xs : List α), v = .slice A xs.length c ∧ xs.length ≤ c ∧ c ≤ maxLen ∧ Ro w [] (SlA A (xs.flatMap encL)) := by
  rcases open_slice ht h with ⟨hcs, _⟩ | ⟨a, len, cap, m, n, D, Pl, hcs, hb, hl, hm, hmm, hx, hi⟩
  · obtain rfl : v = .slice none 0 0 := by simpa using hcs
    exact ⟨none, 0, [], rfl, Nat.le_refl _, by decide, ⟨fun j u hj => by simp at hj, fun b hb => by rw [SlA_fp] at hb; obtain ⟨_, h0, _⟩ := mem_slfp hb; cases h0⟩⟩
  · obtain rfl : v = .slice (some a) len cap := by simpa using hcs
    have hmle : len ≤ m := by rw [hmm]; split <;> omega
    obtain ⟨xs, h1, h2⟩ := list_choose (p := fun i (x : α) => ∀ j u, (encL x)[j]? = some u → w.cell? (a.add (i * sz + j)) = some u) len (fun i hilt => by
      obtain ⟨cs', hc, ht'⟩ := hi i (by omega)
      obtain ⟨x, rfl⟩ := hel _ _ _ ht'
      obtain ⟨_, hcl, hat⟩ := World.cells?_some hc
      refine ⟨x, fun j u hj => ?_⟩
      have hjl : j < sz := by rw [← hlen x]; exact (List.getElem?_eq_some_iff.1 hj).1
      have := hat j (by rw [hsz]; exact hjl)
      rw [hsz, Go.E.add_add] at this
      rw [this]; exact hj)
    refine ⟨some a, cap, xs, by rw [h1], by omega, hm, ⟨fun j u hj => ?_, fun b hb => ⟨?_, fun hn => by cases hn⟩⟩⟩
    · obtain ⟨x, h3, h4⟩ := flat_get hpos hlen xs j u hj
      have := h2 _ x h3 _ u h4
      rw [Nat.mul_comm, Nat.div_add_mod] at this
      exact ⟨a, rfl, this⟩
    · rw [SlA_fp] at hb
      obtain ⟨a', ha, rfl, hne⟩ := mem_slfp hb
      injection ha with ha
      subst ha
      obtain ⟨u, hu⟩ : ∃ u, (xs.flatMap encL)[0]? = some u := by
        cases hx' : xs.flatMap encL with
        | nil => exact absurd hx' hne
        | cons u l => exact ⟨u, rfl⟩
      obtain ⟨x, h3, h4⟩ := flat_get hpos hlen xs 0 u hu
      have := h2 _ x h3 _ u h4
      have h5 := cell_lt this
      rwa [add_block] at h5
theorem wf_u8 {k : Int} (h : (Lit.int .u8 k).wf = true) : 0 ≤ k ∧ k ≤ 255 := by
  have := h
  simp [Lit.wf, IntKind.min, IntKind.max, IntKind.signed, IntKind.bits] at this
  constructor <;> omega
/-- An array of single cells, cell by cell. -/
theorem trod_cells {t e : TypeId} {N fuel : Nat} {cs : List Value} {x : DataW H × List MemPlace} (ht : P.underlying t = some (.array N e)) (hc : P.cellsOf e = 1) (hN : P.cellsOf t = N) (h : DataW.trod enc P w base spare held fuel t cs = some x) :
    cs.length = N ∧ ∃ (xs : List (DataW H × List MemPlace)) (m : Nat), x = (.agg (xs.map (·.1)), xs.flatMap (·.2)) ∧ xs.length = N ∧ ∀ (i : Nat) (u : Value), cs[i]? = some u → DataW.trod enc P w base spare held m e [u] = xs[i]? := by
  obtain ⟨xs, m, _, hx, hl, hn, hel⟩ := DataW.trod_array ht h
  refine ⟨hl.trans hN, xs, m, hx, hn, fun i u hu => ?_⟩
  have hi : i < cs.length := (List.getElem?_eq_some_iff.1 hu).1
  have h1 := hel i (by rw [hl, hN] at hi; exact hi)
  rw [hc, Nat.mul_one, List.drop_eq_getElem_cons hi] at h1
  have : cs[i] = u := (List.getElem?_eq_some_iff.1 hu).2
  rw [this] at h1
  exact h1
theorem trod_hash {t e : TypeId} {fuel : Nat} {cs : List Value} {x : DataW H × List MemPlace} (ht : P.underlying t = some (.array 32 e)) (he : P.underlying e = some (.int .u8)) (hc : P.cellsOf e = 1) (hN : P.cellsOf t = 32) (h : DataW.trod enc P w base spare held fuel t cs = some x) : ∃ h : H32, cs = hvl h := by
  obtain ⟨hl, xs, m, _, hn, hel⟩ := trod_cells ht hc hN h
  obtain ⟨bs, h1, h2⟩ := list_choose (p := fun i (b : UInt8) => cs[i]? = some (.int .u8 (b.toNat : Int))) 32 (fun i hi => by
    have hu : cs[i]? = some (cs[i]'(by omega)) := List.getElem?_eq_getElem (by omega)
    have h3 := hel i _ hu
    rw [List.getElem?_eq_getElem (by omega)] at h3
    obtain ⟨k, h4, _, h5⟩ := DataW.trod_int he h3
    have hb := wf_u8 h5
    refine ⟨UInt8.ofNat k.toNat, ?_⟩
    rw [hu, show cs[i]'(by omega) = .int .u8 k by simpa using h4, UInt8.toNat_ofNat', Nat.mod_eq_of_lt (by omega)]
    congr 2
    omega)
  refine ⟨(⟨bs, h1⟩ : H32), ?_⟩
  show cs = bytesL bs
  refine List.ext_getElem? fun i => ?_
  rcases Nat.lt_or_ge i 32 with hi | hi
  · have hb : bs[i]? = some (bs[i]'(by omega)) := List.getElem?_eq_getElem (by omega)
    rw [h2 i _ hb]
    simp [bytesL, hb]
  · rw [List.getElem?_eq_none (by omega), List.getElem?_eq_none (by rw [bytesL_length, h1]; exact hi)]
end
end Go.E
