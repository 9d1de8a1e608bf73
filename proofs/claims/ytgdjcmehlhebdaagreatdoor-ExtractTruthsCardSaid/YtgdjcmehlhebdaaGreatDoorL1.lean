/- What came in, read as plain lists: hashes, tables, slices whose elements are flat. -/
import Derived.Test.YtgdjcmehlhebdaaGreatDoorYU2
import Derived.OpenShut
import Derived.ProofKit
import Derived.FnData
import Derived.Test.YtgdjcmehlhebdaaGreatDoorRows
import Derived.Test.YtgdjcmehlhebdaaGreatDoorTie
import Derived.Test.YtgdjcmehlhebdaaGreatDoorCards
import Derived.WalkKit
import Derived.LaidMore
import Derived.ShutString
import Derived.ChangeOld
import Derived.Stop.Joined
import Derived.SevenTiedAt
import Derived.Deep.Strs
set_option maxHeartbeats 25600000
set_option linter.all false
namespace Go.E
open Go.ChangeShapes Go.WideShapes Go.Deep
section
variable {H : Type} {enc : TypeId × Value → H} {P : Program} {w : World} {base : Nat} {spare : Nat → Bool} {held : Bool}
theorem fW {α : Type} {p : Nat → α → Prop} : ∀ (n : Nat), (∀ i, i < n → ∃ x, p i x) → ∃ xs : List α, xs.length = n ∧ ∀ i x, xs[i]? = some x → p i x
 | 0, _ => ⟨[], rfl, fun i x h => by simp at h⟩
 | n + 1, h => by
  obtain ⟨xs, h1, h2⟩ := fW n fun i hi => h i ow
  obtain ⟨x, hx⟩ := h n ow
  refine ⟨xs ++ [x], by simp [h1], fun i y hy => ?_⟩
  rcases Nat.lt_or_ge i xs.length with hi | hi
  ·rw [List.getElem?_append_left hi] at hy; exact h2 i y hy
  ·rw [List.getElem?_append_right hi] at hy
   have : i - xs.length = 0 := by
    rcases Nat.eq_zero_or_pos (i - xs.length) with h3 | h3
    ·exact h3
    ·rw [List.getElem?_eq_none (by simp; omega)] at hy; cases hy
   rw [this] at hy
   injection hy with hy
   subst hy
   rwa [show i = n by omega]
theorem vL {α : Type} {encL : α → List Value} {sz : Nat} (hpos : 0 < sz) (hlen : ∀ a, (encL a).length = sz) : ∀ (xs : List α) (j : Nat) (u : Value), (xs.flatMap encL)[j]? = some u → ∃ x, xs[j / sz]? = some x ∧ (encL x)[j % sz]? = some u
 | [], j, u, h => by simp at h
 | x :: xs, j, u, h => by
  rw [List.flatMap_cons] at h
  rcases Nat.lt_or_ge j sz with hj | hj
  ·rw [List.getElem?_append_left (by rw [hlen]; exact hj)] at h
   exact ⟨x, by rw [Nat.div_eq_of_lt hj]; rfl, by rw [Nat.mod_eq_of_lt hj]; exact h⟩
  ·rw [List.getElem?_append_right (by rw [hlen]; exact hj), hlen] at h
   obtain ⟨y, h1, h2⟩ := vL hpos hlen xs (j - sz) u h
   have e : j = (j - sz) + sz := by omega
   refine ⟨y, ?_, ?_⟩
   ·rw [e, Nat.add_div_right _ hpos]; exact h1
   ·rw [e, Nat.add_mod_right]; exact h2
theorem iE {α : Type} {t e : TypeId} {fuel : Nat} {v : Value} {y : DataW H × List MemPlace} (encL : α → List Value) {sz : Nat} (ht : P.underlying t = some (.slice e)) (hsz : P.cellsOf e = sz) (hpos : 0 < sz) (hlen : ∀ a, (encL a).length = sz)
  (hel : ∀ n cs y, DataW.trod enc P w base spare held n e cs = some y → ∃ x, cs = encL x) (h : DataW.trod enc P w base spare held fuel t [v] = some y) :
  ∃ (A : y8) (c : Nat) (xs : List α), v = .slice A xs.length c ∧ xs.length ≤ c ∧ c ≤ maxLen ∧ Ro w [] (SlA A (xs.flatMap encL)) := by
 rcases open_slice ht h with ⟨m9, _⟩ | ⟨a, len, cap, m, n, D, Pl, m9, hb, hl, hm, hmm, hx, hi⟩
 ·obtain rfl : v = .slice none 0 0 := by simpa using m9
  exact ⟨none, 0, [], rfl, Nat.le_refl _, by decide, ⟨fun j u hj => by simp at hj, fun b hb => by rw [bN] at hb; obtain ⟨_, h0, _⟩ := U9 hb; cases h0⟩⟩
 ·obtain rfl : v = .slice (some a) len cap := by simpa using m9
  have hmle : len ≤ m := by rw [hmm]; split <;> omega
  obtain ⟨xs, h1, h2⟩ := fW (p := fun i (x : α) => ∀ j u, (encL x)[j]? = some u → w.cell? (a.add (i * sz + j)) = some u) len (fun i hilt => by
   obtain ⟨cs', hc, ht'⟩ := hi i ow
   obtain ⟨x, rfl⟩ := hel _ _ _ ht'
   obtain ⟨_, hcl, hat⟩ := World.cells?_some hc
   refine ⟨x, fun j u hj => ?_⟩
   have hjl : j < sz := by rw [← hlen x]; exact (List.getElem?_eq_some_iff.1 hj).1
   have := hat j (by rw [hsz]; exact hjl)
   rw [hsz, Go.E.add_add] at this
   rw [this]; exact hj)
  refine ⟨some a, cap, xs, by rw [h1], by omega, hm, ⟨fun j u hj => ?_, fun b hb => ⟨?_, fun hn => by cases hn⟩⟩⟩
  ·obtain ⟨x, h3, h4⟩ := vL hpos hlen xs j u hj
   have := h2 _ x h3 _ u h4
   rw [Nat.mul_comm, Nat.div_add_mod] at this
   exact ⟨a, rfl, this⟩
  ·rw [bN] at hb
   obtain ⟨a', ha, rfl, hne⟩ := U9 hb
   injection ha with ha
   subst ha
   obtain ⟨u, hu⟩ : ∃ u, (xs.flatMap encL)[0]? = some u := by
    cases hx' : xs.flatMap encL with
    | nil => exact absurd hx' hne
    | cons u l => exact ⟨u, rfl⟩
   obtain ⟨x, h3, h4⟩ := vL hpos hlen xs 0 u hu
   have := h2 _ x h3 _ u h4
   have h5 := GJ this
   rwa [lE] at h5
theorem KM {k : Int} (h : (Lit.int .u8 k).wf = true) : 0 ≤ k ∧ k ≤ 255 := by
 have := h
 simp [Lit.wf, IntKind.min, IntKind.max, IntKind.signed, IntKind.bits] at this
 constructor <;> omega
theorem nM {t e : TypeId} {N fuel : Nat} {cs : List Value} {x : DataW H × List MemPlace} (ht : P.underlying t = some (.array N e)) (hc : P.cellsOf e = 1) (hN : P.cellsOf t = N) (h : DataW.trod enc P w base spare held fuel t cs = some x) :
  cs.length = N ∧ ∃ (xs : List (DataW H × List MemPlace)) (m : Nat), x = (.agg (xs.map (·.1)), xs.flatMap (·.2)) ∧ xs.length = N ∧ ∀ (i : Nat) (u : Value), cs[i]? = some u → DataW.trod enc P w base spare held m e [u] = xs[i]? := by
 obtain ⟨xs, m, _, hx, hl, hn, hel⟩ := DataW.trod_array ht h
 refine ⟨hl.trans hN, xs, m, hx, hn, fun i u hu => ?_⟩
 have hi : i < cs.length := (List.getElem?_eq_some_iff.1 hu).1
 have h1 := hel i (by rw [hl, hN] at hi; exact hi)
 rw [hc, Nat.mul_one, List.drop_eq_getElem_cons hi] at h1
 have : cs[i] = u := (List.getElem?_eq_some_iff.1 hu).2
 rw [this] at h1
 exact h1
theorem AO {t e : TypeId} {fuel : Nat} {cs : List Value} {x : DataW H × List MemPlace} (ht : P.underlying t = some (.array 32 e)) (he : P.underlying e = some (.int .u8)) (hc : P.cellsOf e = 1) (hN : P.cellsOf t = 32) (h : DataW.trod enc P w base spare held fuel t cs = some x) : ∃ h : i6, cs = L8 h := by
 obtain ⟨hl, xs, m, _, hn, hel⟩ := nM ht hc hN h
 obtain ⟨bs, h1, h2⟩ := fW (p := fun i (b : UInt8) => cs[i]? = some (.int .u8 (b.toNat : Int))) 32 (fun i hi => by
  have hu : cs[i]? = some (cs[i]'ow) := List.getElem?_eq_getElem ow
  have h3 := hel i _ hu
  rw [List.getElem?_eq_getElem ow] at h3
  obtain ⟨k, h4, _, h5⟩ := DataW.trod_int he h3
  have hb := KM h5
  refine ⟨UInt8.ofNat k.toNat, ?_⟩
  rw [hu, show cs[i]'ow = .int .u8 k by simpa using h4, UInt8.toNat_ofNat', Nat.mod_eq_of_lt ow]
  congr 2
  omega)
 refine ⟨(⟨bs, h1⟩ : i6), ?_⟩
 show cs = e9 bs
 refine List.ext_getElem? fun i => ?_
 rcases Nat.lt_or_ge i 32 with hi | hi
 ·have hb : bs[i]? = some (bs[i]'ow) := List.getElem?_eq_getElem ow
  rw [h2 i _ hb]
  simp [e9, hb]
 ·rw [List.getElem?_eq_none ow, List.getElem?_eq_none (by rw [o3, h1]; exact hi)]
theorem za7 {v : Value} {l : List Value} (h : v.cells.toList = l) (hl : l.length ≠ 1) : v = .agg l.toArray := by
 rw [bY] at h
 have h' : vl v = l := by simpa using h
 cases v <;> first
  | exact absurd (show l.length = 1 by rw [← h']; rfl) hl
  | (subst h'; rfl)
theorem FD {t e : TypeId} {fuel : Nat} {cs : List Value} {p : List MemPlace} {ls : List W} (ht : P.underlying t = some (.array ls.length e)) (he : P.underlying e = some (.int .u32)) (hc : P.cellsOf e = 1) (hN : P.cellsOf t = ls.length)
  (h : DataW.trod enc P w base spare held fuel t cs = some (.agg (ls.map fun x => .lit (.int .u32 (x.toNat : Int))), p)) : cs = M5 ls := by
 obtain ⟨hl, xs, m, hx, hn, hel⟩ := nM ht hc hN h
 injection hx with hx _
 injection hx with hx
 refine List.ext_getElem? fun i => ?_
 rcases Nat.lt_or_ge i ls.length with hi | hi
 ·have hu : cs[i]? = some (cs[i]'ow) := List.getElem?_eq_getElem ow
  have h3 := hel i _ hu
  rw [List.getElem?_eq_getElem ow] at h3
  obtain ⟨k, h4, h5, _⟩ := DataW.trod_int he h3
  have h6 : (ls.map fun x => (DataW.lit (.int .u32 (x.toNat : Int)) : DataW H))[i]? = (xs.map (·.1))[i]? := by rw [hx]
  rw [List.getElem?_map, List.getElem?_map, List.getElem?_eq_getElem hi, List.getElem?_eq_getElem (show i < xs.length by omega)] at h6
  simp only [Option.map_some, h5] at h6
  injection h6 with h6
  injection h6 with h6
  injection h6 with _ h6
  rw [hu, show cs[i]'ow = .int .u32 k by simpa using h4, ← h6]
  simp [M5, hi]
 ·rw [List.getElem?_eq_none ow, List.getElem?_eq_none (by rw [u4]; exact hi)]
theorem JN {P : Program} {w : World} {n : String} {g : Nat} {cs : Array Value} {ls : List W} (hg : P.globalNamed n = some g) (hv : w.var? P n = some cs) (m9 : cs.toList = M5 ls) (hne : ls ≠ []) : Ro w [] (SlA (some ⟨g, 0, none⟩) (M5 ls)) := by
 have hcell : ∀ i, w.cell? ⟨g, i, none⟩ = (M5 ls)[i]? := fun i => by
  rw [World.var?_cell hg hv i, ← m9, Array.getElem?_toList]
 refine ⟨fun j u hj => ⟨_, rfl, by rw [Q4, Nat.zero_add, hcell]; exact hj⟩, fun b hb => ⟨?_, fun hn => by cases hn⟩⟩
 rw [bN] at hb
 obtain ⟨a, ha, rfl, _⟩ := U9 hb
 injection ha with ha
 subst ha
 obtain ⟨x, l, rfl⟩ : ∃ x l, ls = x :: l := by
  cases ls with
  | nil => exact absurd rfl hne
  | cons x l => exact ⟨x, l, rfl⟩
 exact GJ (a := ⟨g, 0, none⟩) ((hcell 0).trans rfl)
end
end Go.E
namespace Go.Proofs.YtgdjcmehlhebdaaGreatDoor
open _root_.Go.Proofs.Tryz
open Go.ChangeShapes Go.WideShapes Go.ChangeAt Go.RowKit Go.E
theorem own : ownKnob prog.godebug = none := by kernel_rfl
theorem BP : laidOutB prog = true := by kernel_rfl
theorem g0 : prog.globalNamed "entrust/sha.initials" = some 1 := by kernel_rfl
theorem g1 : prog.globalNamed "entrust/entrustref02.Initials" = some 0 := by kernel_rfl
theorem g2 : prog.globalNamed "entrust/sha.constants" = some 3 := by kernel_rfl
theorem g3 : prog.globalNamed "entrust/entrustref02.Constants" = some 2 := by kernel_rfl
theorem gt0 : (prog.globals[1]?).map (·.type) = some 224 := by kernel_rfl
theorem gt1 : (prog.globals[0]?).map (·.type) = some 224 := by kernel_rfl
theorem gt2 : (prog.globals[3]?).map (·.type) = some 302 := by kernel_rfl
theorem gt3 : (prog.globals[2]?).map (·.type) = some 302 := by kernel_rfl
theorem LB : prog.cellsOf 223 = 1 := by kernel_rfl
theorem c224 : prog.cellsOf 224 = 8 := by kernel_rfl
theorem c302 : prog.cellsOf 302 = 64 := by kernel_rfl
theorem c5 : prog.cellsOf 5 = 1 := by kernel_rfl
theorem LP : prog.cellsOf 49 = 32 := by kernel_rfl
abbrev DR : List (String × DataW Unit) := [("entrust/entrustref02.Constants", Rows.laid_entrust_entrustref02_Constants), ("entrust/entrustref02.Initials", Rows.laid_entrust_entrustref02_Initials), ("entrust/sha.constants", Rows.laid_entrust_sha_constants), ("entrust/sha.initials", Rows.laid_entrust_sha_initials)]
theorem dK : (Rows.laid_entrust_sha_constants : DataW Unit) = .agg (K256.map fun x => .lit (.int .u32 (x.toNat : Int))) := by kernel_rfl
theorem dI : (Rows.laid_entrust_sha_initials : DataW Unit) = .agg (I256.map fun x => .lit (.int .u32 (x.toNat : Int))) := by kernel_rfl
theorem dRK : (Rows.laid_entrust_entrustref02_Constants : DataW Unit) = .agg (K256.map fun x => .lit (.int .u32 (x.toNat : Int))) := by kernel_rfl
theorem dRI : (Rows.laid_entrust_entrustref02_Initials : DataW Unit) = .agg (I256.map fun x => .lit (.int .u32 (x.toNat : Int))) := by kernel_rfl
theorem LZ {W : World} {n : String} {g : Nat} {cs : Array Value} {f : Nat} {p : List MemPlace} {d : DataW Unit} {spare : Nat → Bool} {held : Bool} {b : Nat} (hg : prog.globalNamed n = some g) (hv : W.var? prog n = some cs) (hd : d = .agg (K256.map fun x => .lit (.int .u32 (x.toNat : Int))))
  (h : DataW.trod (fun _ => ()) prog W b spare held f 302 cs.toList = some (d, p)) : Ro W [] (SlA (some ⟨g, 0, none⟩) (M5 K256)) :=
 JN hg hv (FD underlying302 underlying223 LB c302 (hd ▸ h)) (by decide)
theorem LD {W : World} {n : String} {g : Nat} {cs : Array Value} {f : Nat} {p : List MemPlace} {d : DataW Unit} {spare : Nat → Bool} {held : Bool} {b : Nat} (hg : prog.globalNamed n = some g) (hv : W.var? prog n = some cs) (hd : d = .agg (I256.map fun x => .lit (.int .u32 (x.toNat : Int))))
  (h : DataW.trod (fun _ => ()) prog W b spare held f 224 cs.toList = some (d, p)) : Ro W [] (SlA (some ⟨g, 0, none⟩) (M5 I256)) :=
 JN hg hv (FD underlying224 underlying223 LB c224 (hd ▸ h)) (by decide)
theorem zhf {W : World} (h : laidMetH prog DR W) : Tabs 3 1 W [] ∧ Tabs 2 0 W [] := by
 rw [MakeChecks.laidMetH_plain _ _ _ (by kernel_rfl)] at h
 obtain ⟨ps, ⟨a3, t3, cs3, f3, p3, q3, hg3, ht3, hv3, hd3, ⟨a1, t1, cs1, f1, p1, q1, hg1, ht1, hv1, hd1, ⟨a2, t2, cs2, f2, p2, q2, hg2, ht2, hv2, hd2, ⟨a0, t0, cs0, f0, p0, q0, hg0, ht0, hv0, hd0, _, _⟩, _⟩, _⟩, _⟩, _, _⟩ := h
 obtain rfl := Option.some.inj (g3.symm.trans hg3)
 obtain rfl := Option.some.inj (g1.symm.trans hg1)
 obtain rfl := Option.some.inj (g2.symm.trans hg2)
 obtain rfl := Option.some.inj (g0.symm.trans hg0)
 obtain rfl := Option.some.inj (gt3.symm.trans ht3)
 obtain rfl := Option.some.inj (gt1.symm.trans ht1)
 obtain rfl := Option.some.inj (gt2.symm.trans ht2)
 obtain rfl := Option.some.inj (gt0.symm.trans ht0)
 exact ⟨⟨LZ g2 hv2 dK hd2, LD g0 hv0 dI hd0⟩, ⟨LZ g3 hv3 dRK hd3, LD g1 hv1 dRI hd1⟩⟩
theorem zeT (os : Os) (args : Array Value) : laidMetH prog DR ((World.doorLaid prog 29 os).forCall (fun _ _ => 0) ⟨#[], args, []⟩).memory :=
 laidMetH_of_parts3 (fuel := 8) (laidMet_of_run' 8 (by kernel_rfl) (by kernel_rfl)) (by kernel_rfl) (by kernel_rfl)
open Go.ChangeShapes Go.WideShapes Go.ChangeAt Go.RowKit Go.E Go.Deep
set_option maxRecDepth 100000
theorem c4 : prog.cellsOf 4 = 1 := by kernel_rfl
theorem KU : prog.cellsOf 40 = 1 := by kernel_rfl
theorem c23 : prog.cellsOf 23 = 1 := by kernel_rfl
theorem MA : prog.cellsOf 89 = 32 := by kernel_rfl
theorem LI : prog.cellsOf 59 = 16 := by kernel_rfl
theorem KQ : prog.cellsOf 136 = 49 := by kernel_rfl
theorem LA : prog.cellsOf 138 = 50 := by kernel_rfl
section
variable {H : Type} {enc : TypeId × Value → H} {w : World} {base : Nat} {spare : Nat → Bool} {held : Bool}
theorem zbq {α : Type} {r : Reach} {b0 : Nat} {t e : TypeId} {v : Value} {d : DataW H} {p : List MemPlace} (encL : α → List Value) {sz : Nat} (ht : prog.underlying t = some (.slice e)) (hsz : prog.cellsOf e = sz) (hpos : 0 < sz) (hlen : ∀ a, (encL a).length = sz)
  (hel : ∀ n cs y, DataW.trod enc prog w base spare held n e cs = some y → ∃ x, cs = encL x) (hval : Value.okWide prog w r b0 t v) (h : DataW.Trod enc prog w base spare held t v d p) :
  ∃ (A : y8) (c : Nat) (xs : List α), v = .slice A xs.length c ∧ xs.length ≤ c ∧ c ≤ maxLen ∧ Ro w [] (SlA A (xs.flatMap encL)) := by
 obtain ⟨fuel, hf⟩ := h
 obtain ⟨a, l, c, rfl⟩ := okWide_slice ht hval
 exact iE encL ht hsz hpos hlen hel (show DataW.trod enc prog w base spare held fuel t [.slice a l c] = some (d, p) from hf)
def KB (a : Fin 18446744073709551616) : List Value := [.int .u64 ((a.val : Nat) : Int)]
theorem zgf (l : List (Fin 18446744073709551616)) : l.flatMap KB = w6 (l.map Fin.val) := by
 induction l with
 | nil => rfl
 | cons a l ih => rw [List.flatMap_cons, ih]; rfl
theorem zhT {n : Nat} {cs : List Value} {y : DataW H × List MemPlace} (h : DataW.trod enc prog w base spare held n 40 cs = some y) : ∃ x, cs = KB x := by
 obtain ⟨z, e0, _, wz⟩ := DataW.trod_int underlying40 h
 have hz := iC wz
 exact ⟨⟨z.toNat, by omega⟩, by rw [e0, KB, Int.toNat_of_nonneg hz.1]⟩
theorem FC {fuel : Nat} {cs : List Value} {x : DataW H × List MemPlace} (h : DataW.trod enc prog w base spare held fuel 59 cs = some x) : ∃ y : KT, cs = e9 y.1 := by
 obtain ⟨hl, xs, m, _, hn, hel⟩ := nM underlying59 c5 LI h
 obtain ⟨bs, h1, h2⟩ := fW (p := fun i (b : UInt8) => cs[i]? = some (.int .u8 (b.toNat : Int))) 16 (fun i hi => by
  have hu : cs[i]? = some (cs[i]'ow) := List.getElem?_eq_getElem ow
  have h3 := hel i _ hu
  rw [List.getElem?_eq_getElem ow] at h3
  obtain ⟨k, h4, _, h5⟩ := DataW.trod_int underlying5 h3
  have hb := KM h5
  refine ⟨UInt8.ofNat k.toNat, ?_⟩
  rw [hu, show cs[i]'ow = .int .u8 k by simpa using h4, UInt8.toNat_ofNat', Nat.mod_eq_of_lt ow]
  congr 2
  omega)
 refine ⟨(⟨bs, h1⟩ : KT), ?_⟩
 show cs = e9 bs
 refine List.ext_getElem? fun i => ?_
 rcases Nat.lt_or_ge i 16 with hi | hi
 ·have hb : bs[i]? = some (bs[i]'ow) := List.getElem?_eq_getElem ow
  rw [h2 i _ hb]
  simp [e9, hb]
 ·rw [List.getElem?_eq_none ow, List.getElem?_eq_none (by rw [o3, h1]; exact hi)]
theorem zhH {cs : List Value} (hl : cs.length = 49) : cs = (cs.drop 0).take 1 ++ ((cs.drop 1).take 32 ++ (cs.drop 33).take 16) := by
 rw [List.drop_zero]
 have h1 : (cs.drop 33).take 16 = cs.drop 33 := List.take_of_length_le (by rw [List.length_drop]; omega)
 have h2 : (cs.drop 1).take 32 ++ cs.drop 33 = cs.drop 1 := by
  have := List.take_append_drop 32 (cs.drop 1)
  rwa [List.drop_drop] at this
 rw [h1, h2, List.take_append_drop]
theorem AP {fuel : Nat} {cs : List Value} {x : DataW H × List MemPlace} (h : DataW.trod enc prog w base spare held fuel 136 cs = some x) : ∃ s : Sealed, cs = o4 s := by
 obtain ⟨y0, y1, y2, n, _, hl, h0, h1, h2⟩ := trod_struct3 underlying136 h
 rw [KQ] at hl
 have h0' : DataW.trod enc prog w base spare held n 40 ((cs.drop 0).take 1) = some y0 := by rw [← KU]; exact h0
 have h1' : DataW.trod enc prog w base spare held n 89 ((cs.drop 1).take 32) = some y1 := by rw [← MA]; exact h1
 have h2' : DataW.trod enc prog w base spare held n 59 ((cs.drop 33).take 16) = some y2 := by rw [← LI]; exact h2
 obtain ⟨z, e0, _, wz⟩ := DataW.trod_int underlying40 h0'
 obtain ⟨hh, e1⟩ := AO underlying89 underlying5 c5 MA h1'
 obtain ⟨tg, e2⟩ := FC h2'
 have hz := iC wz
 refine ⟨⟨z.toNat, by omega, hh, tg⟩, ?_⟩
 rw [zhH hl, e0, e1, e2, o4, Int.toNat_of_nonneg hz.1]
 rfl
theorem zgc {fuel : Nat} {cs : List Value} {x : DataW H × List MemPlace} (h : DataW.trod enc prog w base spare held fuel 138 cs = some x) : ∃ s : Go.E.Item, cs = u9 s := by
 obtain ⟨y0, y1, n, _, hl, h0, h1⟩ := trod_struct2 underlying138 h
 rw [LA] at hl
 have h0' : DataW.trod enc prog w base spare held n 4 ((cs.drop 0).take 1) = some y0 := by rw [← c4]; exact h0
 have h1' : DataW.trod enc prog w base spare held n 136 ((cs.drop 1).take 49) = some y1 := by rw [← KQ]; exact h1
 obtain ⟨b, e0, _⟩ := DataW.trod_bool underlying4 h0'
 obtain ⟨s, e1⟩ := AP h1'
 refine ⟨⟨b, s⟩, ?_⟩
 have e : cs = (cs.drop 0).take 1 ++ (cs.drop 1).take 49 := by
  rw [List.drop_zero, List.take_of_length_le (by rw [List.length_drop]; omega : (cs.drop 1).length ≤ 49), List.take_append_drop]
 rw [e, e0, e1]; rfl
theorem zcD {n : Nat} {v : Value} {x : DataW H × List MemPlace} (h : DataW.trod enc prog w base spare held n 23 [v] = some x) :
  ∃ (A : y8) (c : Nat) (l : List Go.E.Item), v = .slice A l.length c ∧ l.length ≤ c ∧ Ro w [] (SlA A (l.flatMap u9)) := by
 obtain ⟨d, p⟩ := x
 obtain ⟨A, c, l, rfl, h2, _, h4⟩ := iE u9 underlying23 LA (by decide) m0 (fun n cs y => zgc) h
 exact ⟨A, c, l, rfl, h2, h4⟩
end
theorem c3 : prog.cellsOf 3 = 1 := by kernel_rfl
theorem LO : prog.cellsOf 22 = 1 := by kernel_rfl
theorem c33 : prog.cellsOf 33 = 1 := by kernel_rfl
theorem LQ : prog.cellsOf 56 = 1 := by kernel_rfl
theorem LF : prog.cellsOf 58 = 4 := by kernel_rfl
theorem LR : prog.cellsOf 63 = 28 := by kernel_rfl
theorem LS : prog.cellsOf 65 = 29 := by kernel_rfl
theorem c67 : prog.cellsOf 67 = 61 := by kernel_rfl
theorem jD {cs : List Value} {o : Nat} (h : o < cs.length) : ∃ v, cs[o]? = some v ∧ (cs.drop o).take 1 = [v] := by
 refine ⟨cs[o], List.getElem?_eq_getElem h, ?_⟩
 rw [List.drop_eq_getElem_cons h]; rfl
section
variable {H : Type} {enc : TypeId × Value → H} {w : World} {base : Nat} {spare : Nat → Bool} {held : Bool}
theorem sM {n : Nat} {v : Value} {x : DataW H × List MemPlace} (h : DataW.trod enc prog w base spare held n 22 [v] = some x) :
  ∃ (A : y8) (c : Nat) (xs : List Nat), v = .slice A xs.length c ∧ xs.length ≤ c ∧ (∀ x ∈ xs, x < 18446744073709551616) ∧ Ro w [] (SlA A (w6 xs)) := by
 obtain ⟨d, p⟩ := x
 obtain ⟨A, c, l, rfl, h1, h2, h3⟩ := iE KB underlying22 KU (by decide) (fun _ => rfl) (fun n cs y => zhT) h
 refine ⟨A, c, l.map Fin.val, by rw [List.length_map], by rw [List.length_map]; exact h1, fun x hx => ?_, by rw [← zgf]; exact h3⟩
 obtain ⟨a, _, rfl⟩ := List.mem_map.1 hx
 exact a.isLt
theorem pI {n : Nat} {v : Value} {x : DataW H × List MemPlace} (h : DataW.trod enc prog w base spare held n 33 [v] = some x) :
  ∃ (A : y8) (c : Nat) (xs : List i6), v = .slice A xs.length c ∧ xs.length ≤ c ∧ Ro w [] (SlA A (m9 xs)) := by
 obtain ⟨d, p⟩ := x
 obtain ⟨A, c, ps, rfl, h2, _, h4⟩ := iE L8 underlying33 LP (by decide) l6 (fun n cs y => AO underlying49 underlying5 c5 LP) h
 exact ⟨A, c, ps, rfl, h2, h4⟩
theorem zcF {n : Nat} {v : Value} {x : DataW H × List MemPlace} (h : DataW.trod enc prog w base spare held n 56 [v] = some x) :
  ∃ (A : y8) (c : Nat) (xs : List Sealed), v = .slice A xs.length c ∧ xs.length ≤ c ∧ Ro w [] (SlA A (xs.flatMap o4)) := by
 obtain ⟨d, p⟩ := x
 obtain ⟨A, c, ps, rfl, h2, _, h4⟩ := iE o4 underlying56 KQ (by decide) k9 (fun n cs y => AP) h
 exact ⟨A, c, ps, rfl, h2, h4⟩
theorem vR {n o : Nat} {cs : List Value} {y : DataW H × List MemPlace} (h : DataW.trod enc prog w base spare held n 3 ((cs.drop o).take 1) = some y) (ho : o < cs.length) : ∃ k : Int, cs[o]? = some (.int .i64 k) ∧ -9223372036854775808 ≤ k ∧ k ≤ 9223372036854775807 := by
 obtain ⟨v, h1, h2⟩ := jD ho
 rw [h2] at h
 obtain ⟨k, e0, _, wk⟩ := DataW.trod_int underlying3 h
 obtain rfl : v = .int .i64 k := by simpa using e0
 exact ⟨k, h1, zfg wk⟩
theorem nC {n o : Nat} {cs : List Value} {y : DataW H × List MemPlace} (h : DataW.trod enc prog w base spare held n 40 ((cs.drop o).take 1) = some y) (ho : o < cs.length) : ∃ k : Nat, cs[o]? = some (.int .u64 (k : Int)) ∧ k < 18446744073709551616 := by
 obtain ⟨v, h1, h2⟩ := jD ho
 rw [h2] at h
 obtain ⟨z, e0, _, wz⟩ := DataW.trod_int underlying40 h
 obtain rfl : v = .int .u64 z := by simpa using e0
 have hz := iC wz
 exact ⟨z.toNat, by rw [Int.toNat_of_nonneg hz.1]; exact h1, by omega⟩
theorem wI {n : Nat} {cs : List Value} {y : DataW H × List MemPlace} (h : DataW.trod enc prog w base spare held n 58 cs = some y) : ∃ x : OrdA, x.Ok w ∧ cs = M7 x := by
 obtain ⟨xs, m, _, _, hl, hn, hg⟩ := DataW.trod_struct underlying58 h
 rw [LF] at hl
 have hx (i : Nat) (hi : i < 4) : ∃ y, xs[i]? = some y := ⟨_, List.getElem?_eq_getElem (by rw [hn]; exact hi)⟩
 obtain ⟨y0, e0⟩ := hx 0 (by decide)
 obtain ⟨y1, e1⟩ := hx 1 (by decide)
 obtain ⟨y2, e2⟩ := hx 2 (by decide)
 obtain ⟨y3, e3⟩ := hx 3 (by decide)
 have g0 : DataW.trod enc prog w base spare held m 3 ((cs.drop 0).take (prog.cellsOf 3)) = some y0 := (hg 0 _ rfl).trans e0
 have g1 : DataW.trod enc prog w base spare held m 22 ((cs.drop 1).take (prog.cellsOf 22)) = some y1 := (hg 1 _ rfl).trans e1
 have g2 : DataW.trod enc prog w base spare held m 56 ((cs.drop 2).take (prog.cellsOf 56)) = some y2 := (hg 2 _ rfl).trans e2
 have g3 : DataW.trod enc prog w base spare held m 40 ((cs.drop 3).take (prog.cellsOf 40)) = some y3 := (hg 3 _ rfl).trans e3
 rw [c3] at g0
 rw [LO] at g1
 rw [LQ] at g2
 rw [KU] at g3
 obtain ⟨k, k0, _, _⟩ := vR g0 ow
 obtain ⟨v1, a1, b1⟩ := jD (cs := cs) (o := 1) ow
 rw [b1] at g1
 obtain ⟨A, c, xs1, rfl, i1, i2, i3⟩ := sM g1
 obtain ⟨v2, a2, b2⟩ := jD (cs := cs) (o := 2) ow
 rw [b2] at g2
 obtain ⟨B, d, ss, rfl, j1, j3⟩ := zcF g2
 obtain ⟨z, z0, z1⟩ := nC g3 ow
 refine ⟨⟨A, c, B, d, ⟨k, xs1, ss, z⟩⟩, ⟨i1, i2, z1, i3, j3⟩, ?_⟩
 refine List.ext_getElem? fun i => ?_
 match i with
 | 0 => exact k0
 | 1 => exact a1
 | 2 => exact a2
 | 3 => exact z0
 | (i + 4) => rw [List.getElem?_eq_none ow, List.getElem?_eq_none (by rw [R7]; omega)]
theorem zic {cs : List Value} (hl : cs.length = 61) : cs = (cs.drop 0).take 28 ++ ((cs.drop 28).take 29 ++ (cs.drop 57).take 4) := by
 rw [List.drop_zero]
 have h1 : (cs.drop 57).take 4 = cs.drop 57 := List.take_of_length_le (by rw [List.length_drop]; omega)
 have h2 : (cs.drop 28).take 29 ++ cs.drop 57 = cs.drop 28 := by
  have := List.take_append_drop 29 (cs.drop 28)
  rwa [List.drop_drop] at this
 rw [h1, h2, List.take_append_drop]
end
theorem by58 : prog.bytesOf 58 = 64 := by kernel_rfl
section
variable {H : Type} {enc : TypeId × Value → H} {w : World} {base : Nat} {spare : Nat → Bool} {held : Bool}
theorem zcE {r : Reach} {b0 : Nat} {v : Value} {d : DataW H} {p : List MemPlace} (hval : Value.okWide prog w r b0 55 v) (h : DataW.Trod enc prog w base spare held 55 v d p) (hw : (d.weights prog 55).all (· ≤ reachBytes) = true) :
  ∃ (A : y8) (c : Nat) (os : List OrdA), v = .slice A os.length c ∧ (∀ o ∈ os, o.Ok w) ∧ Ro w [] (SlA A (os.flatMap M7)) ∧ os.length ≤ 2199023255488 := by
 obtain ⟨A, c, l, rfl, h1, h2, h3⟩ := zbq (fun x : {x : OrdA // x.Ok w} => M7 x.1) underlying55 LF (by decide) (fun _ => rfl) (fun n cs y hh => by obtain ⟨x, hx, e⟩ := wI hh; exact ⟨⟨x, hx⟩, e⟩) hval h
 refine ⟨A, c, l.map (·.1), by rw [List.length_map], fun o ho => ?_, by rw [List.flatMap_map]; exact h3, ?_⟩
 ·obtain ⟨a, _, rfl⟩ := List.mem_map.1 ho
  exact a.2
 ·rw [List.length_map]
  obtain ⟨fuel, hf⟩ := h
  rcases DataW.trod_slice underlying55 (show DataW.trod enc prog w base spare held fuel 55 [.slice A l.length c] = some (d, p) from hf) with ⟨e, _⟩ | ⟨a, len, cap, elems, rest, n, _, e, hx, _, _, _, hl, _⟩
  ·injection e with e _
   injection e with _ e _
   omega
  ·injection e with e _
   injection e with _ e _
   injection hx with hx _
   subst hx
   simp only [DataW.weights, underlying55, List.all_cons, Bool.and_eq_true, by58, reachBytes, List.length_map] at hw
   have hw1 := of_decide_eq_true hw.1
   omega
theorem zc3 {P : Program} {a b : TypeId} {d0 d1 : DataW H} {ts : List TypeId} {ds : List (DataW H)} (h : (DataW.weightsEach P (a :: b :: ts) (d0 :: d1 :: ds)).all (· ≤ reachBytes) = true) : (d1.weights P b).all (· ≤ reachBytes) = true := by
 simp only [DataW.weightsEach, List.all_append, Bool.and_eq_true] at h
 exact h.2.1
end
theorem LJ : prog.cellsOf 61 = 22 := by kernel_rfl
theorem zjU : prog.bytesOf 136 = 56 := by kernel_rfl
theorem BR {cs bs : List Value} {o n i : Nat} (h : (cs.drop o).take n = bs) (hi : i < n) : cs[o + i]? = bs[i]? := by
 have e := congrArg (fun l : List Value => l[i]?) h
 simp only [List.getElem?_take_of_lt hi, List.getElem?_drop] at e
 exact e
section
variable {H : Type} {enc : TypeId × Value → H} {w : World} {base : Nat} {spare : Nat → Bool} {held : Bool}
theorem KJ {α : Type} {l : List α} (h : l.length = 4) : ∃ a b c d, l = [a, b, c, d] := by
 match l, h with
 | [a, b, c, d], _ => exact ⟨a, b, c, d, rfl⟩
theorem zcV {n c k : Nat} {A : y8} {x : DataW H × List MemPlace} (h : DataW.trod enc prog w base spare held n 56 [.slice A k c] = some x) (hw : (x.1.weights prog 56).all (· ≤ reachBytes) = true) : k * 56 ≤ 140737488351232 := by
 obtain ⟨d, p⟩ := x
 rcases DataW.trod_slice underlying56 h with ⟨e, _⟩ | ⟨a, len, cap, elems, rest, n, _, e, hx, _, _, _, hl, _⟩
 ·injection e with e _
  injection e with _ e _
  omega
 ·injection e with e _
  injection e with _ e _
  injection hx with hx _
  subst hx
  simp only [DataW.weights, underlying56, List.all_cons, Bool.and_eq_true, zjU, reachBytes, List.length_map] at hw
  have hw1 := of_decide_eq_true hw.1
  omega
theorem zfw {n : Nat} {cs : List Value} {y : DataW H × List MemPlace} (h : DataW.trod enc prog w base spare held n 58 cs = some y) (hw : (y.1.weights prog 58).all (· ≤ reachBytes) = true) : ∃ x : OrdA, x.Ok w ∧ cs = M7 x ∧ x.o.ss.length * 56 ≤ 140737488351232 := by
 obtain ⟨x, hx, rfl⟩ := wI h
 refine ⟨x, hx, rfl, ?_⟩
 obtain ⟨xs, m, _, rfl, hl, hn, hg⟩ := DataW.trod_struct underlying58 h
 obtain ⟨y0, y1, y2, y3, rfl⟩ := KJ hn
 have g2 : DataW.trod enc prog w base spare held m 56 (((M7 x).drop 2).take (prog.cellsOf 56)) = some y2 := hg 2 _ rfl
 rw [LQ] at g2
 simp only [DataW.weights, underlying58, List.map_cons, List.map_nil, DataW.weightsEach, List.all_append, Bool.and_eq_true] at hw
 exact zcV (k := x.o.ss.length) (show DataW.trod enc prog w base spare held m 56 [.slice x.B x.o.ss.length x.d] = some y2 from g2) hw.2.2.1
theorem ED {n : Nat} {cs : List Value} {y : DataW H × List MemPlace} (h : DataW.trod enc prog w base spare held n 61 cs = some y) (hw : (y.1.weights prog 61).all (· ≤ reachBytes) = true) : ∃ t : TckA, cs = W8 t ∧ Ro w [] (SlA t.x.B (t.x.o.ss.flatMap o4)) ∧ t.x.o.ss.length * 56 ≤ 140737488351232 := by
 obtain ⟨xs, m, _, rfl, hl, hn, hg⟩ := DataW.trod_struct underlying61 h
 rw [LJ] at hl
 obtain ⟨y0, y1, y2, y3, rfl⟩ := KJ hn
 have g0 : DataW.trod enc prog w base spare held m 40 ((cs.drop 0).take (prog.cellsOf 40)) = some y0 := hg 0 _ rfl
 have g1 : DataW.trod enc prog w base spare held m 40 ((cs.drop 1).take (prog.cellsOf 40)) = some y1 := hg 1 _ rfl
 have g2 : DataW.trod enc prog w base spare held m 58 ((cs.drop 2).take (prog.cellsOf 58)) = some y2 := hg 2 _ rfl
 have g3 : DataW.trod enc prog w base spare held m 59 ((cs.drop 6).take (prog.cellsOf 59)) = some y3 := hg 3 _ rfl
 rw [KU] at g0 g1
 rw [LF] at g2
 rw [LI] at g3
 simp only [DataW.weights, underlying61, List.map_cons, List.map_nil, DataW.weightsEach, List.all_append, Bool.and_eq_true] at hw
 obtain ⟨u, u0, _⟩ := nC g0 ow
 obtain ⟨e, e0, _⟩ := nC g1 ow
 obtain ⟨x, hx, x0, xb⟩ := zfw g2 hw.2.2.1
 obtain ⟨tg, t0⟩ := FC g3
 refine ⟨⟨u, e, x, tg⟩, ?_, hx.rs, xb⟩
 refine List.ext_getElem? fun i => ?_
 match i with
 | 0 => exact u0
 | 1 => exact e0
 | (i + 2) =>
  show cs[i + 2]? = (M7 x ++ e9 tg.1)[i]?
  rw [Nat.add_comm i 2]
  rcases Nat.lt_or_ge i 4 with hi | hi
  ·rw [BR x0 hi, List.getElem?_append_left (by rw [R7]; exact hi)]
  ·rw [List.getElem?_append_right (by rw [R7]; exact hi), R7]
   rcases Nat.lt_or_ge i 20 with hj | hj
   ·rw [← BR t0 (show i - 4 < 16 by omega)]
    congr 1; omega
   ·rw [List.getElem?_eq_none ow, List.getElem?_eq_none (by rw [o3, tg.2]; omega)]
theorem zj0 {α : Type} {l : List α} (h : l.length = 7) : ∃ a b c d e f g, l = [a, b, c, d, e, f, g] := by
 match l, h with
 | [a, b, c, d, e, f, g], _ => exact ⟨a, b, c, d, e, f, g, rfl⟩
theorem zj1 {α : Type} {l : List α} (h : l.length = 8) : ∃ a b c d e f g k, l = [a, b, c, d, e, f, g, k] := by
 match l, h with
 | [a, b, c, d, e, f, g, k], _ => exact ⟨a, b, c, d, e, f, g, k, rfl⟩
theorem zig {n o : Nat} {cs : List Value} {y : DataW H × List MemPlace} (h : DataW.trod enc prog w base spare held n 4 ((cs.drop o).take 1) = some y) (ho : o < cs.length) : ∃ b : Bool, cs[o]? = some (.bool b) := by
 obtain ⟨v, h1, h2⟩ := jD ho
 rw [h2] at h
 obtain ⟨b, e0, _⟩ := DataW.trod_bool underlying4 h
 obtain rfl : v = .bool b := by simpa using e0
 exact ⟨b, h1⟩
theorem zfy {n : Nat} {cs : List Value} {y : DataW H × List MemPlace} (h : DataW.trod enc prog w base spare held n 63 cs = some y) (hw : (y.1.weights prog 63).all (· ≤ reachBytes) = true) : ∃ q : ReqB, q.toA.Ok w ∧ cs = bL q ∧ Ro w [] (SlA q.t.x.B (q.t.x.o.ss.flatMap o4)) ∧ q.t.x.o.ss.length * 56 ≤ 140737488351232 := by
 obtain ⟨xs, m, _, rfl, hl, hn, hg⟩ := DataW.trod_struct underlying63 h
 rw [LR] at hl
 obtain ⟨y0, y1, y2, y3, y4, y5, y6, rfl⟩ := zj0 hn
 have g0 : DataW.trod enc prog w base spare held m 40 ((cs.drop 0).take (prog.cellsOf 40)) = some y0 := hg 0 _ rfl
 have g1 : DataW.trod enc prog w base spare held m 3 ((cs.drop 1).take (prog.cellsOf 3)) = some y1 := hg 1 _ rfl
 have g2 : DataW.trod enc prog w base spare held m 22 ((cs.drop 2).take (prog.cellsOf 22)) = some y2 := hg 2 _ rfl
 have g3 : DataW.trod enc prog w base spare held m 40 ((cs.drop 3).take (prog.cellsOf 40)) = some y3 := hg 3 _ rfl
 have g4 : DataW.trod enc prog w base spare held m 3 ((cs.drop 4).take (prog.cellsOf 3)) = some y4 := hg 4 _ rfl
 have g5 : DataW.trod enc prog w base spare held m 61 ((cs.drop 5).take (prog.cellsOf 61)) = some y5 := hg 5 _ rfl
 have g6 : DataW.trod enc prog w base spare held m 40 ((cs.drop 27).take (prog.cellsOf 40)) = some y6 := hg 6 _ rfl
 rw [KU] at g0 g3 g6
 rw [c3] at g1 g4
 rw [LO] at g2
 rw [LJ] at g5
 simp only [DataW.weights, underlying63, List.map_cons, List.map_nil, DataW.weightsEach, List.all_append, Bool.and_eq_true] at hw
 obtain ⟨s, s0, _⟩ := nC g0 ow
 obtain ⟨k, k1, _, _⟩ := vR g1 ow
 obtain ⟨v2, a2, b2⟩ := jD (cs := cs) (o := 2) ow
 rw [b2] at g2
 obtain ⟨A, c, xs1, rfl, i1, i2, i3⟩ := sM g2
 obtain ⟨z, z0, z1⟩ := nC g3 ow
 obtain ⟨mm, q0, q1, q2⟩ := vR g4 ow
 obtain ⟨t, t0, t1, t2⟩ := ED g5 hw.2.2.2.2.2.1
 obtain ⟨e, e0, _⟩ := nC g6 ow
 refine ⟨⟨s, k, A, c, xs1, z, mm, t, e⟩, ⟨i1, i2, z1, q1, q2, i3⟩, ?_, t1, t2⟩
 refine List.ext_getElem? fun i => ?_
 match i with
 | 0 => exact s0
 | 1 => exact k1
 | 2 => exact a2
 | 3 => exact z0
 | 4 => exact q0
 | (i + 5) =>
  show cs[i + 5]? = (W8 t ++ [.int .u64 (e : Int)])[i]?
  rw [Nat.add_comm i 5]
  rcases Nat.lt_or_ge i 22 with hi | hi
  ·rw [BR t0 hi, List.getElem?_append_left (by rw [x6]; exact hi)]
  ·rw [List.getElem?_append_right (by rw [x6]; exact hi), x6]
   rcases Nat.lt_or_ge i 23 with hj | hj
   ·obtain rfl : i = 22 := by omega
    exact e0
   ·rw [List.getElem?_eq_none ow, List.getElem?_eq_none (by rw [List.length_singleton]; omega)]
theorem zfx {n : Nat} {cs : List Value} {y : DataW H × List MemPlace} (h : DataW.trod enc prog w base spare held n 65 cs = some y) (hw : (y.1.weights prog 65).all (· ≤ reachBytes) = true) : ∃ p : RepB, p.toA.Ok w ∧ cs = Y5 p ∧ Ro w [] (SlA p.t.x.B (p.t.x.o.ss.flatMap o4)) ∧ p.t.x.o.ss.length * 56 ≤ 140737488351232 := by
 obtain ⟨xs, m, _, rfl, hl, hn, hg⟩ := DataW.trod_struct underlying65 h
 rw [LS] at hl
 obtain ⟨y0, y1, y2, y3, y4, y5, y6, y7, rfl⟩ := zj1 hn
 have g0 : DataW.trod enc prog w base spare held m 40 ((cs.drop 0).take (prog.cellsOf 40)) = some y0 := hg 0 _ rfl
 have g1 : DataW.trod enc prog w base spare held m 3 ((cs.drop 1).take (prog.cellsOf 3)) = some y1 := hg 1 _ rfl
 have g2 : DataW.trod enc prog w base spare held m 3 ((cs.drop 2).take (prog.cellsOf 3)) = some y2 := hg 2 _ rfl
 have g3 : DataW.trod enc prog w base spare held m 23 ((cs.drop 3).take (prog.cellsOf 23)) = some y3 := hg 3 _ rfl
 have g4 : DataW.trod enc prog w base spare held m 4 ((cs.drop 4).take (prog.cellsOf 4)) = some y4 := hg 4 _ rfl
 have g5 : DataW.trod enc prog w base spare held m 61 ((cs.drop 5).take (prog.cellsOf 61)) = some y5 := hg 5 _ rfl
 have g6 : DataW.trod enc prog w base spare held m 33 ((cs.drop 27).take (prog.cellsOf 33)) = some y6 := hg 6 _ rfl
 have g7 : DataW.trod enc prog w base spare held m 33 ((cs.drop 28).take (prog.cellsOf 33)) = some y7 := hg 7 _ rfl
 rw [KU] at g0
 rw [c3] at g1 g2
 rw [c23] at g3
 rw [c4] at g4
 rw [LJ] at g5
 rw [c33] at g6 g7
 simp only [DataW.weights, underlying65, List.map_cons, List.map_nil, DataW.weightsEach, List.all_append, Bool.and_eq_true] at hw
 obtain ⟨s, s0, _⟩ := nC g0 ow
 obtain ⟨k, k1, _, _⟩ := vR g1 ow
 obtain ⟨er, er2, _, _⟩ := vR g2 ow
 obtain ⟨v3, a3, b3⟩ := jD (cs := cs) (o := 3) ow
 rw [b3] at g3
 obtain ⟨I, i, its, rfl, i1, i2⟩ := zcD g3
 obtain ⟨th, th4⟩ := zig g4 ow
 obtain ⟨t, t0, t1, t2⟩ := ED g5 hw.2.2.2.2.2.1
 obtain ⟨v6, a6, b6⟩ := jD (cs := cs) (o := 27) ow
 rw [b6] at g6
 obtain ⟨P, p, pa, rfl, p1, p2⟩ := pI g6
 obtain ⟨v7, a7, b7⟩ := jD (cs := cs) (o := 28) ow
 rw [b7] at g7
 obtain ⟨Q, q, pb, rfl, q1, q2⟩ := pI g7
 refine ⟨⟨s, k, er, I, i, its, th, t, P, p, pa, Q, q, pb⟩, ⟨i1, p1, q1, i2, p2, q2⟩, ?_, t1, t2⟩
 refine List.ext_getElem? fun j => ?_
 match j with
 | 0 => exact s0
 | 1 => exact k1
 | 2 => exact er2
 | 3 => exact a3
 | 4 => exact th4
 | (j + 5) =>
  show cs[j + 5]? = (W8 t ++ [.slice P pa.length p, .slice Q pb.length q])[j]?
  rw [Nat.add_comm j 5]
  rcases Nat.lt_or_ge j 22 with hi | hi
  ·rw [BR t0 hi, List.getElem?_append_left (by rw [x6]; exact hi)]
  ·rw [List.getElem?_append_right (by rw [x6]; exact hi), x6]
   rcases Nat.lt_or_ge j 24 with hj | hj
   ·rcases Nat.lt_or_ge j 23 with hk | hk
    ·obtain rfl : j = 22 := by omega
     exact a6
    ·obtain rfl : j = 23 := by omega
     exact a7
   ·rw [List.getElem?_eq_none ow, List.getElem?_eq_none (by simp only [List.length_cons, List.length_nil]; omega)]
theorem zfv {v : Value} {d : DataW H} {p : List MemPlace} (h : DataW.Trod enc prog w base spare held 67 v d p) (hw : (d.weights prog 67).all (· ≤ reachBytes) = true) :
  ∃ (q : ReqB) (r : RepB) (x : OrdA), v = .agg (oC q.toA r.toA x).toArray ∧ q.toA.Ok w ∧ r.toA.Ok w ∧ x.Ok w ∧ Ro w [] (SlA q.t.x.B (q.t.x.o.ss.flatMap o4)) ∧ q.t.x.o.ss.length * 56 ≤ 140737488351232 ∧ Ro w [] (SlA r.t.x.B (r.t.x.o.ss.flatMap o4)) ∧ r.t.x.o.ss.length * 56 ≤ 140737488351232 := by
 obtain ⟨fuel, hf⟩ := h
 obtain ⟨y0, y1, y2, n, e, hl, h0, h1, h2⟩ := trod_struct3 underlying67 hf
 rw [c67] at hl
 injection e with e1 _
 subst e1
 simp only [DataW.weights, underlying67, List.map_cons, List.map_nil, DataW.weightsEach, List.all_append, Bool.and_eq_true] at hw
 have h0' : DataW.trod enc prog w base spare held n 63 ((v.cells.toList.drop 0).take 28) = some y0 := by rw [← LR]; exact h0
 have h1' : DataW.trod enc prog w base spare held n 65 ((v.cells.toList.drop 28).take 29) = some y1 := by rw [← LS]; exact h1
 have h2' : DataW.trod enc prog w base spare held n 58 ((v.cells.toList.drop 57).take 4) = some y2 := by rw [← LF]; exact h2
 obtain ⟨q, hq, e0, q1, q2⟩ := zfy h0' hw.1
 obtain ⟨r, hr, e1, r1, r2⟩ := zfx h1' hw.2.1
 obtain ⟨x, hx, e2⟩ := wI h2'
 refine ⟨q, r, x, za7 ?_ (by rw [rN]; decide), hq, hr, hx, q1, q2, r1, r2⟩
 rw [zic hl, e0, e1, e2]; rfl
theorem zc4 {P : Program} {a b c : TypeId} {d0 d1 d2 : DataW H} {ts : List TypeId} {ds : List (DataW H)} (h : (DataW.weightsEach P (a :: b :: c :: ts) (d0 :: d1 :: d2 :: ds)).all (· ≤ reachBytes) = true) : (d2.weights P c).all (· ≤ reachBytes) = true := by
 simp only [DataW.weightsEach, List.all_append, Bool.and_eq_true] at h
 exact h.2.2.1
end
theorem zaf {a b : Bool} (h1 : a = true) (h2 : b = true) : (a && b) = true := by rw [h1, h2]; rfl
theorem zaa : joinedFacts prog 5 f5 Rows.extractTruthsSpec Rows.extractTruthsRow = true := by
 unfold joinedFacts
 repeat' (with_reducible refine zaf ?_ ?_)
 all_goals (as_aux_lemma => kernel_rfl)
theorem extractTruths_named : prog.funcNamed Rows.extractTruthsRow.func = some 5 := by kernel_rfl
theorem zac : f5.isInstance prog Rows.extractTruthsRow.origin Rows.extractTruthsRow.targs := of_decide_eq_true (by kernel_rfl)
theorem zae : f5.isWrapper prog Rows.extractTruthsRow.wrapper Rows.extractTruthsRow.mainSum := by unfold Func.isWrapper; first | (rw [if_pos (by decide +kernel)]; kernel_rfl) | (rw [if_neg (by decide +kernel)]; exact ⟨rfl, rfl⟩)
end Go.Proofs.YtgdjcmehlhebdaaGreatDoor
