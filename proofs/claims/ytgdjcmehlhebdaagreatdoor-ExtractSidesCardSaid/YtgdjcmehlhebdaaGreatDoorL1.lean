/-
  What came in, read as plain lists: hashes, tables, slices whose elements are flat. What the rows' condition on the listed variables gives the walks: the tables of the hash, for the program and for the document. What came in, read as plain lists: items, lists of indices, sealed blocks. What came in, read as plain lists: requests, replies, orders, what is asked, lists of texts. What came in, read as plain lists: six lists of hashes.
-/
import Derived.Test.YtgdjcmehlhebdaaGreatDoorGR
import Derived.Test.YtgdjcmehlhebdaaGreatDoorMO
import Derived.Test.YtgdjcmehlhebdaaGreatDoorYZTA
import Derived.Test.YtgdjcmehlhebdaaGreatDoorXQ
import Derived.Deep.Slices
import Derived.OpenShut
import Derived.ProofKit
import Derived.FnData
import Derived.Test.YtgdjcmehlhebdaaGreatDoorRows
import Derived.Test.YtgdjcmehlhebdaaGreatDoorTie
import Derived.Test.YtgdjcmehlhebdaaGreatDoorCards
import Derived.WalkKit
import Derived.LaidMore
import Derived.ShutString
import Derived.ChangeOld
import Derived.Stop.Joined
import Derived.SevenTiedAt
import Derived.Deep.Strs
namespace Go.E
open Go.ChangeShapes Go.WideShapes Go.Deep
set_option linter.unusedVariables false
section
variable {H : Type} {enc : TypeId × Value → H} {P : Program} {w : World} {base : Nat} {spare : Nat → Bool} {held : Bool}
theorem list_choose {α : Type} {p : Nat → α → Prop} : ∀ (n : Nat), (∀ i, i < n → ∃ x, p i x) → ∃ xs : List α, xs.length = n ∧ ∀ i x, xs[i]? = some x → p i x
  | 0, _ => ⟨[], rfl, fun i x h => by simp at h⟩
  | n + 1, h => by
    obtain ⟨xs, h1, h2⟩ := list_choose n fun i hi => h i (by omega)
    obtain ⟨x, hx⟩ := h n (by omega)
    refine ⟨xs ++ [x], by simp [h1], fun i y hy => ?_⟩
    rcases Nat.lt_or_ge i xs.length with hi | hi
    · rw [List.getElem?_append_left hi] at hy; exact h2 i y hy
    · rw [List.getElem?_append_right hi] at hy
      have : i - xs.length = 0 := by
        rcases Nat.eq_zero_or_pos (i - xs.length) with h3 | h3
        · exact h3
        · rw [List.getElem?_eq_none (by simp; omega)] at hy; cases hy
      rw [this] at hy
      injection hy with hy
      subst hy
      rwa [show i = n by omega]
theorem flat_get {α : Type} {encL : α → List Value} {sz : Nat} (hpos : 0 < sz) (hlen : ∀ a, (encL a).length = sz) : ∀ (xs : List α) (j : Nat) (u : Value), (xs.flatMap encL)[j]? = some u → ∃ x, xs[j / sz]? = some x ∧ (encL x)[j % sz]? = some u
  | [], j, u, h => by simp at h
  | x :: xs, j, u, h => by
    rw [List.flatMap_cons] at h
    rcases Nat.lt_or_ge j sz with hj | hj
    · rw [List.getElem?_append_left (by rw [hlen]; exact hj)] at h
      exact ⟨x, by rw [Nat.div_eq_of_lt hj]; rfl, by rw [Nat.mod_eq_of_lt hj]; exact h⟩
    · rw [List.getElem?_append_right (by rw [hlen]; exact hj), hlen] at h
      obtain ⟨y, h1, h2⟩ := flat_get hpos hlen xs (j - sz) u h
      have e : j = (j - sz) + sz := by omega
      refine ⟨y, ?_, ?_⟩
      · rw [e, Nat.add_div_right _ hpos]; exact h1
      · rw [e, Nat.add_mod_right]; exact h2
/-- A slice whose elements are flat. -/
theorem open_flat {α : Type} {t e : TypeId} {fuel : Nat} {v : Value} {y : DataW H × List MemPlace} (encL : α → List Value) {sz : Nat} (ht : P.underlying t = some (.slice e)) (hsz : P.cellsOf e = sz) (hpos : 0 < sz) (hlen : ∀ a, (encL a).length = sz)
    (hel : ∀ n cs y, DataW.trod enc P w base spare held n e cs = some y → ∃ x, cs = encL x) (h : DataW.trod enc P w base spare held fuel t [v] = some y) :
    ∃ (A : Option Addr) (c : Nat) (xs : List α), v = .slice A xs.length c ∧ xs.length ≤ c ∧ c ≤ maxLen ∧ Ro w [] (SlA A (xs.flatMap encL)) := by
  rcases open_slice ht h with ⟨hcs, _⟩ | ⟨a, len, cap, m, n, D, Pl, hcs, hb, hl, hm, hmm, hx, hi⟩
  · obtain rfl : v = .slice none 0 0 := by simpa using hcs
    exact ⟨none, 0, [], rfl, Nat.le_refl _, by decide, ⟨fun j u hj => by simp at hj, fun b hb => by rw [SlA_fp] at hb; obtain ⟨_, h0, _⟩ := mem_slfp hb; cases h0⟩⟩
  · obtain rfl : v = .slice (some a) len cap := by simpa using hcs
    have hmle : len ≤ m := by rw [hmm]; split <;> omega
    obtain ⟨xs, h1, h2⟩ := list_choose (p := fun i (x : α) => ∀ j u, (encL x)[j]? = some u → w.cell? (a.add (i * sz + j)) = some u) len (fun i hilt => by
      obtain ⟨cs', hc, ht'⟩ := hi i (by omega)
      obtain ⟨x, rfl⟩ := hel _ _ _ ht'
      obtain ⟨_, hcl, hat⟩ := World.cells?_some hc
      refine ⟨x, fun j u hj => ?_⟩
      have hjl : j < sz := by rw [← hlen x]; exact (List.getElem?_eq_some_iff.1 hj).1
      have := hat j (by rw [hsz]; exact hjl)
      rw [hsz, Go.E.add_add] at this
      rw [this]; exact hj)
    refine ⟨some a, cap, xs, by rw [h1], by omega, hm, ⟨fun j u hj => ?_, fun b hb => ⟨?_, fun hn => by cases hn⟩⟩⟩
    · obtain ⟨x, h3, h4⟩ := flat_get hpos hlen xs j u hj
      have := h2 _ x h3 _ u h4
      rw [Nat.mul_comm, Nat.div_add_mod] at this
      exact ⟨a, rfl, this⟩
    · rw [SlA_fp] at hb
      obtain ⟨a', ha, rfl, hne⟩ := mem_slfp hb
      injection ha with ha
      subst ha
      obtain ⟨u, hu⟩ : ∃ u, (xs.flatMap encL)[0]? = some u := by
        cases hx' : xs.flatMap encL with
        | nil => exact absurd hx' hne
        | cons u l => exact ⟨u, rfl⟩
      obtain ⟨x, h3, h4⟩ := flat_get hpos hlen xs 0 u hu
      have := h2 _ x h3 _ u h4
      have h5 := cell_lt this
      rwa [add_block] at h5
theorem wf_u8 {k : Int} (h : (Lit.int .u8 k).wf = true) : 0 ≤ k ∧ k ≤ 255 := by
  have := h
  simp [Lit.wf, IntKind.min, IntKind.max, IntKind.signed, IntKind.bits] at this
  constructor <;> omega
/-- An array of single cells, cell by cell. -/
theorem trod_cells {t e : TypeId} {N fuel : Nat} {cs : List Value} {x : DataW H × List MemPlace} (ht : P.underlying t = some (.array N e)) (hc : P.cellsOf e = 1) (hN : P.cellsOf t = N) (h : DataW.trod enc P w base spare held fuel t cs = some x) :
    cs.length = N ∧ ∃ (xs : List (DataW H × List MemPlace)) (m : Nat), x = (.agg (xs.map (·.1)), xs.flatMap (·.2)) ∧ xs.length = N ∧ ∀ (i : Nat) (u : Value), cs[i]? = some u → DataW.trod enc P w base spare held m e [u] = xs[i]? := by
  obtain ⟨xs, m, _, hx, hl, hn, hel⟩ := DataW.trod_array ht h
  refine ⟨hl.trans hN, xs, m, hx, hn, fun i u hu => ?_⟩
  have hi : i < cs.length := (List.getElem?_eq_some_iff.1 hu).1
  have h1 := hel i (by rw [hl, hN] at hi; exact hi)
  rw [hc, Nat.mul_one, List.drop_eq_getElem_cons hi] at h1
  have : cs[i] = u := (List.getElem?_eq_some_iff.1 hu).2
  rw [this] at h1
  exact h1
theorem trod_hash {t e : TypeId} {fuel : Nat} {cs : List Value} {x : DataW H × List MemPlace} (ht : P.underlying t = some (.array 32 e)) (he : P.underlying e = some (.int .u8)) (hc : P.cellsOf e = 1) (hN : P.cellsOf t = 32) (h : DataW.trod enc P w base spare held fuel t cs = some x) : ∃ h : H32, cs = hvl h := by
  obtain ⟨hl, xs, m, _, hn, hel⟩ := trod_cells ht hc hN h
  obtain ⟨bs, h1, h2⟩ := list_choose (p := fun i (b : UInt8) => cs[i]? = some (.int .u8 (b.toNat : Int))) 32 (fun i hi => by
    have hu : cs[i]? = some (cs[i]'(by omega)) := List.getElem?_eq_getElem (by omega)
    have h3 := hel i _ hu
    rw [List.getElem?_eq_getElem (by omega)] at h3
    obtain ⟨k, h4, _, h5⟩ := DataW.trod_int he h3
    have hb := wf_u8 h5
    refine ⟨UInt8.ofNat k.toNat, ?_⟩
    rw [hu, show cs[i]'(by omega) = .int .u8 k by simpa using h4, UInt8.toNat_ofNat', Nat.mod_eq_of_lt (by omega)]
    congr 2
    omega)
  refine ⟨(⟨bs, h1⟩ : H32), ?_⟩
  show cs = bytesL bs
  refine List.ext_getElem? fun i => ?_
  rcases Nat.lt_or_ge i 32 with hi | hi
  · have hb : bs[i]? = some (bs[i]'(by omega)) := List.getElem?_eq_getElem (by omega)
    rw [h2 i _ hb]
    simp [bytesL, hb]
  · rw [List.getElem?_eq_none (by omega), List.getElem?_eq_none (by rw [bytesL_length, h1]; exact hi)]
theorem agg_of_cells {v : Value} {l : List Value} (h : v.cells.toList = l) (hl : l.length ≠ 1) : v = .agg l.toArray := by
  rw [vl_cells] at h
  have h' : vl v = l := by simpa using h
  cases v <;> first
    | exact absurd (show l.length = 1 by rw [← h']; rfl) hl
    | (subst h'; rfl)
theorem trod_w32 {t e : TypeId} {fuel : Nat} {cs : List Value} {p : List MemPlace} {ls : List W} (ht : P.underlying t = some (.array ls.length e)) (he : P.underlying e = some (.int .u32)) (hc : P.cellsOf e = 1) (hN : P.cellsOf t = ls.length)
    (h : DataW.trod enc P w base spare held fuel t cs = some (.agg (ls.map fun x => .lit (.int .u32 (x.toNat : Int))), p)) : cs = w32s ls := by
  obtain ⟨hl, xs, m, hx, hn, hel⟩ := trod_cells ht hc hN h
  injection hx with hx _
  injection hx with hx
  refine List.ext_getElem? fun i => ?_
  rcases Nat.lt_or_ge i ls.length with hi | hi
  · have hu : cs[i]? = some (cs[i]'(by omega)) := List.getElem?_eq_getElem (by omega)
    have h3 := hel i _ hu
    rw [List.getElem?_eq_getElem (by omega)] at h3
    obtain ⟨k, h4, h5, _⟩ := DataW.trod_int he h3
    have h6 : (ls.map fun x => (DataW.lit (.int .u32 (x.toNat : Int)) : DataW H))[i]? = (xs.map (·.1))[i]? := by rw [hx]
    rw [List.getElem?_map, List.getElem?_map, List.getElem?_eq_getElem hi, List.getElem?_eq_getElem (show i < xs.length by omega)] at h6
    simp only [Option.map_some, h5] at h6
    injection h6 with h6
    injection h6 with h6
    injection h6 with _ h6
    rw [hu, show cs[i]'(by omega) = .int .u32 k by simpa using h4, ← h6]
    simp [w32s, hi]
  · rw [List.getElem?_eq_none (by omega), List.getElem?_eq_none (by rw [w32s_length]; exact hi)]
theorem tab_ro {P : Program} {w : World} {n : String} {g : Nat} {cs : Array Value} {ls : List W} (hg : P.globalNamed n = some g) (hv : w.var? P n = some cs) (hcs : cs.toList = w32s ls) (hne : ls ≠ []) : Ro w [] (SlA (some ⟨g, 0, none⟩) (w32s ls)) := by
  have hcell : ∀ i, w.cell? ⟨g, i, none⟩ = (w32s ls)[i]? := fun i => by
    rw [World.var?_cell hg hv i, ← hcs, Array.getElem?_toList]
  refine ⟨fun j u hj => ⟨_, rfl, by rw [add_cell, Nat.zero_add, hcell]; exact hj⟩, fun b hb => ⟨?_, fun hn => by cases hn⟩⟩
  rw [SlA_fp] at hb
  obtain ⟨a, ha, rfl, _⟩ := mem_slfp hb
  injection ha with ha
  subst ha
  obtain ⟨x, l, rfl⟩ : ∃ x l, ls = x :: l := by
    cases ls with
    | nil => exact absurd rfl hne
    | cons x l => exact ⟨x, l, rfl⟩
  exact cell_lt (a := ⟨g, 0, none⟩) ((hcell 0).trans rfl)
end
end Go.E
namespace Go.Proofs.YtgdjcmehlhebdaaGreatDoor
open Go.ChangeShapes Go.WideShapes Go.ChangeAt Go.RowKit Go.E
set_option linter.unusedVariables false
theorem own : ownKnob Tryz.prog.godebug = none := by kernel_rfl
theorem laidOut : laidOutB Tryz.prog = true := by kernel_rfl
theorem g0 : Tryz.prog.globalNamed "entrust/sha.initials" = some 1 := by kernel_rfl
theorem g1 : Tryz.prog.globalNamed "entrust/entrustref02.Initials" = some 0 := by kernel_rfl
theorem g2 : Tryz.prog.globalNamed "entrust/sha.constants" = some 3 := by kernel_rfl
theorem g3 : Tryz.prog.globalNamed "entrust/entrustref02.Constants" = some 2 := by kernel_rfl
theorem gt0 : (Tryz.prog.globals[1]?).map (·.type) = some 224 := by kernel_rfl
theorem gt1 : (Tryz.prog.globals[0]?).map (·.type) = some 224 := by kernel_rfl
theorem gt2 : (Tryz.prog.globals[3]?).map (·.type) = some 302 := by kernel_rfl
theorem gt3 : (Tryz.prog.globals[2]?).map (·.type) = some 302 := by kernel_rfl
theorem c223 : Tryz.prog.cellsOf 223 = 1 := by kernel_rfl
theorem c224 : Tryz.prog.cellsOf 224 = 8 := by kernel_rfl
theorem c302 : Tryz.prog.cellsOf 302 = 64 := by kernel_rfl
theorem c5 : Tryz.prog.cellsOf 5 = 1 := by kernel_rfl
theorem c49 : Tryz.prog.cellsOf 49 = 32 := by kernel_rfl
abbrev laid4 : List (String × DataW Unit) := [("entrust/entrustref02.Constants", Rows.laid_entrust_entrustref02_Constants), ("entrust/entrustref02.Initials", Rows.laid_entrust_entrustref02_Initials), ("entrust/sha.constants", Rows.laid_entrust_sha_constants), ("entrust/sha.initials", Rows.laid_entrust_sha_initials)]
theorem dK : (Rows.laid_entrust_sha_constants : DataW Unit) = .agg (K256.map fun x => .lit (.int .u32 (x.toNat : Int))) := by kernel_rfl
theorem dI : (Rows.laid_entrust_sha_initials : DataW Unit) = .agg (I256.map fun x => .lit (.int .u32 (x.toNat : Int))) := by kernel_rfl
theorem dRK : (Rows.laid_entrust_entrustref02_Constants : DataW Unit) = .agg (K256.map fun x => .lit (.int .u32 (x.toNat : Int))) := by kernel_rfl
theorem dRI : (Rows.laid_entrust_entrustref02_Initials : DataW Unit) = .agg (I256.map fun x => .lit (.int .u32 (x.toNat : Int))) := by kernel_rfl
theorem tabK {W : World} {n : String} {g : Nat} {cs : Array Value} {f : Nat} {p : List MemPlace} {d : DataW Unit} {spare : Nat → Bool} {held : Bool} {b : Nat} (hg : Tryz.prog.globalNamed n = some g) (hv : W.var? Tryz.prog n = some cs) (hd : d = .agg (K256.map fun x => .lit (.int .u32 (x.toNat : Int))))
    (h : DataW.trod (fun _ => ()) Tryz.prog W b spare held f 302 cs.toList = some (d, p)) : Ro W [] (SlA (some ⟨g, 0, none⟩) (w32s K256)) :=
  tab_ro hg hv (trod_w32 Tryz.underlying302 Tryz.underlying223 c223 c302 (hd ▸ h)) (by decide)
theorem tabI {W : World} {n : String} {g : Nat} {cs : Array Value} {f : Nat} {p : List MemPlace} {d : DataW Unit} {spare : Nat → Bool} {held : Bool} {b : Nat} (hg : Tryz.prog.globalNamed n = some g) (hv : W.var? Tryz.prog n = some cs) (hd : d = .agg (I256.map fun x => .lit (.int .u32 (x.toNat : Int))))
    (h : DataW.trod (fun _ => ()) Tryz.prog W b spare held f 224 cs.toList = some (d, p)) : Ro W [] (SlA (some ⟨g, 0, none⟩) (w32s I256)) :=
  tab_ro hg hv (trod_w32 Tryz.underlying224 Tryz.underlying223 c223 c224 (hd ▸ h)) (by decide)
theorem of_laid4 {W : World} (h : laidMetH Tryz.prog laid4 W) : Tabs 3 1 W [] ∧ Tabs 2 0 W [] := by
  rw [MakeChecks.laidMetH_plain _ _ _ (by kernel_rfl)] at h
  obtain ⟨ps, ⟨a3, t3, cs3, f3, p3, q3, hg3, ht3, hv3, hd3, ⟨a1, t1, cs1, f1, p1, q1, hg1, ht1, hv1, hd1, ⟨a2, t2, cs2, f2, p2, q2, hg2, ht2, hv2, hd2, ⟨a0, t0, cs0, f0, p0, q0, hg0, ht0, hv0, hd0, _, _⟩, _⟩, _⟩, _⟩, _, _⟩ := h
  obtain rfl := Option.some.inj (g3.symm.trans hg3)
  obtain rfl := Option.some.inj (g1.symm.trans hg1)
  obtain rfl := Option.some.inj (g2.symm.trans hg2)
  obtain rfl := Option.some.inj (g0.symm.trans hg0)
  obtain rfl := Option.some.inj (gt3.symm.trans ht3)
  obtain rfl := Option.some.inj (gt1.symm.trans ht1)
  obtain rfl := Option.some.inj (gt2.symm.trans ht2)
  obtain rfl := Option.some.inj (gt0.symm.trans ht0)
  exact ⟨⟨tabK g2 hv2 dK hd2, tabI g0 hv0 dI hd0⟩, ⟨tabK g3 hv3 dRK hd3, tabI g1 hv1 dRI hd1⟩⟩
theorem door_met4 (os : Os) (args : Array Value) : laidMetH Tryz.prog laid4 ((World.doorLaid Tryz.prog 29 os).forCall (fun _ _ => 0) ⟨#[], args, []⟩).memory :=
  laidMetH_of_parts3 (fuel := 8) (laidMet_of_run' 8 (by kernel_rfl) (by kernel_rfl)) (by kernel_rfl) (by kernel_rfl)
end Go.Proofs.YtgdjcmehlhebdaaGreatDoor
namespace Go.Proofs.YtgdjcmehlhebdaaGreatDoor
open Go.ChangeShapes Go.WideShapes Go.ChangeAt Go.RowKit Go.E Go.Deep
set_option linter.unusedVariables false
set_option maxRecDepth 100000
section
variable {H : Type} {enc : TypeId × Value → H} {w : World} {base : Nat} {spare : Nat → Bool} {held : Bool}
end
end Go.Proofs.YtgdjcmehlhebdaaGreatDoor
namespace Go.Proofs.YtgdjcmehlhebdaaGreatDoor
open Go.ChangeShapes Go.WideShapes Go.ChangeAt Go.RowKit Go.E Go.Deep
set_option linter.unusedVariables false
set_option maxRecDepth 100000
theorem c3 : Tryz.prog.cellsOf 3 = 1 := by kernel_rfl
theorem c33 : Tryz.prog.cellsOf 33 = 1 := by kernel_rfl
section
variable {H : Type} {enc : TypeId × Value → H} {w : World} {base : Nat} {spare : Nat → Bool} {held : Bool}
end
end Go.Proofs.YtgdjcmehlhebdaaGreatDoor
namespace Go.Proofs.YtgdjcmehlhebdaaGreatDoor
open Go.ChangeShapes Go.WideShapes Go.ChangeAt Go.RowKit Go.E Go.Deep
set_option linter.unusedVariables false
set_option maxRecDepth 100000
theorem c41 : Tryz.prog.cellsOf 41 = 6 := by kernel_rfl
section
variable {H : Type} {enc : TypeId × Value → H} {w : World} {base : Nat} {spare : Nat → Bool} {held : Bool}
theorem open_hashes1m {n : Nat} {v : Value} {x : DataW H × List MemPlace} (h : DataW.trod enc Tryz.prog w base spare held n 33 [v] = some x) :
    ∃ (A : Option Addr) (c : Nat) (xs : List H32), v = .slice A xs.length c ∧ xs.length ≤ c ∧ c ≤ maxLen ∧ Ro w [] (SlA A (hcs xs)) := by
  obtain ⟨d, p⟩ := x
  obtain ⟨A, c, ps, rfl, h2, h3, h4⟩ := open_flat hvl Tryz.underlying33 c49 (by decide) hvl_length (fun n cs y => trod_hash Tryz.underlying49 Tryz.underlying5 c5 c49) h
  exact ⟨A, c, ps, rfl, h2, h3, h4⟩
theorem open_six {v : Value} {d : DataW H} {p : List MemPlace} (h : DataW.Trod enc Tryz.prog w base spare held 41 v d p) :
    ∃ (A1 : Option Addr) (c1 : Nat) (l1 : List H32) (B1 : Option Addr) (d1 : Nat) (a1 : List H32) (Z1 : Option Addr) (e1 : Nat) (b1 : List H32) (A2 : Option Addr) (c2 : Nat) (l2 : List H32) (B2 : Option Addr) (d2 : Nat) (a2 : List H32) (Z2 : Option Addr) (e2 : Nat) (b2 : List H32),
      v = .agg #[.slice A1 l1.length c1, .slice B1 a1.length d1, .slice Z1 b1.length e1, .slice A2 l2.length c2, .slice B2 a2.length d2, .slice Z2 b2.length e2] ∧
      (l1.length ≤ c1 ∧ c1 ≤ maxLen ∧ a1.length ≤ d1 ∧ b1.length ≤ e1) ∧ (l2.length ≤ c2 ∧ c2 ≤ maxLen ∧ a2.length ≤ d2 ∧ b2.length ≤ e2) ∧
      (Ro w [] (SlA A1 (hcs l1)) ∧ Ro w [] (SlA B1 (hcs a1)) ∧ Ro w [] (SlA Z1 (hcs b1))) ∧ (Ro w [] (SlA A2 (hcs l2)) ∧ Ro w [] (SlA B2 (hcs a2)) ∧ Ro w [] (SlA Z2 (hcs b2))) := by
  obtain ⟨fuel, hf⟩ := h
  obtain ⟨hl, xs, k, _, hn, hel⟩ := trod_cells Tryz.underlying41 c33 c41 hf
  have key (i : Nat) (hi : i < 6) : ∃ (A : Option Addr) (c : Nat) (ys : List H32), v.cells.toList[i]? = some (.slice A ys.length c) ∧ ys.length ≤ c ∧ c ≤ maxLen ∧ Ro w [] (SlA A (hcs ys)) := by
    have hu : v.cells.toList[i]? = some (v.cells.toList[i]'(by omega)) := List.getElem?_eq_getElem (by omega)
    have h0 := hel i _ hu
    rw [List.getElem?_eq_getElem (by omega)] at h0
    obtain ⟨A, c, ys, e, h2, h3, h4⟩ := open_hashes1m h0
    exact ⟨A, c, ys, by rw [hu, e], h2, h3, h4⟩
  obtain ⟨A1, c1, l1, q1, x1, y1, r1⟩ := key 0 (by decide)
  obtain ⟨B1, d1, a1, q2, x2, y2, r2⟩ := key 1 (by decide)
  obtain ⟨Z1, e1, b1, q3, x3, y3, r3⟩ := key 2 (by decide)
  obtain ⟨A2, c2, l2, q4, x4, y4, r4⟩ := key 3 (by decide)
  obtain ⟨B2, d2, a2, q5, x5, y5, r5⟩ := key 4 (by decide)
  obtain ⟨Z2, e2, b2, q6, x6, y6, r6⟩ := key 5 (by decide)
  refine ⟨A1, c1, l1, B1, d1, a1, Z1, e1, b1, A2, c2, l2, B2, d2, a2, Z2, e2, b2, agg_of_cells ?_ (fun h => by cases h), ⟨x1, y1, x2, x3⟩, ⟨x4, y4, x5, x6⟩, ⟨r1, r2, r3⟩, ⟨r4, r5, r6⟩⟩
  refine List.ext_getElem? fun i => ?_
  match i with
  | 0 => exact q1
  | 1 => exact q2
  | 2 => exact q3
  | 3 => exact q4
  | 4 => exact q5
  | 5 => exact q6
  | (i + 6) => rw [List.getElem?_eq_none (by omega), List.getElem?_eq_none (by simp)]
end
end Go.Proofs.YtgdjcmehlhebdaaGreatDoor
