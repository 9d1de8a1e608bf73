/- What came in, read as plain lists: hashes, tables, slices whose elements are flat. -/
import Derived.Test.YtgdjcmehlhebdaaGreatDoorXQ
import Derived.OpenShut
import Derived.ProofKit
import Derived.FnData
import Derived.Test.YtgdjcmehlhebdaaGreatDoorRows
import Derived.Test.YtgdjcmehlhebdaaGreatDoorTie
import Derived.Test.YtgdjcmehlhebdaaGreatDoorCards
import Derived.WalkKit
import Derived.LaidMore
import Derived.ShutString
import Derived.ChangeOld
import Derived.Stop.Joined
import Derived.SevenTiedAt
import Derived.Deep.Strs
set_option maxHeartbeats 25600000
namespace Go.E
open Go.ChangeShapes Go.WideShapes Go.Deep
section
variable {H : Type} {enc : TypeId × Value → H} {P : Program} {w : World} {base : Nat} {spare : Nat → Bool} {held : Bool}
theorem zdy {α : Type} {p : Nat → α → Prop} : ∀ (n : Nat), (∀ i, i < n → ∃ x, p i x) → ∃ xs : List α, xs.length = n ∧ ∀ i x, xs[i]? = some x → p i x
 | 0, _ => ⟨[], rfl, fun i x h => by simp at h⟩
 | n + 1, h => by
  obtain ⟨xs, h1, h2⟩ := zdy n fun i hi => h i ow
  obtain ⟨x, hx⟩ := h n ow
  refine ⟨xs ++ [x], by simp [h1], fun i y hy => ?_⟩
  rcases Nat.lt_or_ge i xs.length with hi | hi
  ·rw [List.getElem?_append_left hi] at hy; exact h2 i y hy
  ·rw [List.getElem?_append_right hi] at hy
   have : i - xs.length = 0 := by
    rcases Nat.eq_zero_or_pos (i - xs.length) with h3 | h3
    ·exact h3
    ·rw [List.getElem?_eq_none (by simp; omega)] at hy; cases hy
   rw [this] at hy
   injection hy with hy
   subst hy
   rwa [show i = n by omega]
theorem ziV {α : Type} {encL : α → List Value} {sz : Nat} (hpos : 0 < sz) (hlen : ∀ a, (encL a).length = sz) : ∀ (xs : List α) (j : Nat) (u : Value), (xs.flatMap encL)[j]? = some u → ∃ x, xs[j / sz]? = some x ∧ (encL x)[j % sz]? = some u
 | [], j, u, h => by simp at h
 | x :: xs, j, u, h => by
  rw [List.flatMap_cons] at h
  rcases Nat.lt_or_ge j sz with hj | hj
  ·rw [List.getElem?_append_left (by rw [hlen]; exact hj)] at h
   exact ⟨x, by rw [Nat.div_eq_of_lt hj]; rfl, by rw [Nat.mod_eq_of_lt hj]; exact h⟩
  ·rw [List.getElem?_append_right (by rw [hlen]; exact hj), hlen] at h
   obtain ⟨y, h1, h2⟩ := ziV hpos hlen xs (j - sz) u h
   have e : j = (j - sz) + sz := by omega
   refine ⟨y, ?_, ?_⟩
   ·rw [e, Nat.add_div_right _ hpos]; exact h1
   ·rw [e, Nat.add_mod_right]; exact h2
theorem zdZ {α : Type} {t e : TypeId} {fuel : Nat} {v : Value} {y : DataW H × List MemPlace} (encL : α → List Value) {sz : Nat} (ht : P.underlying t = some (.slice e)) (hsz : P.cellsOf e = sz) (hpos : 0 < sz) (hlen : ∀ a, (encL a).length = sz)
  (hel : ∀ n cs y, DataW.trod enc P w base spare held n e cs = some y → ∃ x, cs = encL x) (h : DataW.trod enc P w base spare held fuel t [v] = some y) :
  ∃ (A : OAd) (c : Nat) (xs : List α), v = .slice A xs.length c ∧ xs.length ≤ c ∧ c ≤ maxLen ∧ Ro w [] (SlA A (xs.flatMap encL)) := by
 rcases open_slice ht h with ⟨hcs, _⟩ | ⟨a, len, cap, m, n, D, Pl, hcs, hb, hl, hm, hmm, hx, hi⟩
 ·obtain rfl : v = .slice none 0 0 := by simpa using hcs
  exact ⟨none, 0, [], rfl, Nat.le_refl _, by decide, ⟨fun j u hj => by simp at hj, fun b hb => by rw [zcC] at hb; obtain ⟨_, h0, _⟩ := zbx hb; cases h0⟩⟩
 ·obtain rfl : v = .slice (some a) len cap := by simpa using hcs
  have hmle : len ≤ m := by rw [hmm]; split <;> omega
  obtain ⟨xs, h1, h2⟩ := zdy (p := fun i (x : α) => ∀ j u, (encL x)[j]? = some u → w.cell? (a.add (i * sz + j)) = some u) len (fun i hilt => by
   obtain ⟨cs', hc, ht'⟩ := hi i ow
   obtain ⟨x, rfl⟩ := hel _ _ _ ht'
   obtain ⟨_, hcl, hat⟩ := World.cells?_some hc
   refine ⟨x, fun j u hj => ?_⟩
   have hjl : j < sz := by rw [← hlen x]; exact (List.getElem?_eq_some_iff.1 hj).1
   have := hat j (by rw [hsz]; exact hjl)
   rw [hsz, Go.E.add_add] at this
   rw [this]; exact hj)
  refine ⟨some a, cap, xs, by rw [h1], by omega, hm, ⟨fun j u hj => ?_, fun b hb => ⟨?_, fun hn => by cases hn⟩⟩⟩
  ·obtain ⟨x, h3, h4⟩ := ziV hpos hlen xs j u hj
   have := h2 _ x h3 _ u h4
   rw [Nat.mul_comm, Nat.div_add_mod] at this
   exact ⟨a, rfl, this⟩
  ·rw [zcC] at hb
   obtain ⟨a', ha, rfl, hne⟩ := zbx hb
   injection ha with ha
   subst ha
   obtain ⟨u, hu⟩ : ∃ u, (xs.flatMap encL)[0]? = some u := by
    cases hx' : xs.flatMap encL with
    | nil => exact absurd hx' hne
    | cons u l => exact ⟨u, rfl⟩
   obtain ⟨x, h3, h4⟩ := ziV hpos hlen xs 0 u hu
   have := h2 _ x h3 _ u h4
   have h5 := zon this
   rwa [zeG] at h5
theorem ztG {k : Int} (h : (Lit.int .u8 k).wf = true) : 0 ≤ k ∧ k ≤ 255 := by
 have := h
 simp [Lit.wf, IntKind.min, IntKind.max, IntKind.signed, IntKind.bits] at this
 constructor <;> omega
theorem zfx {t e : TypeId} {N fuel : Nat} {cs : List Value} {x : DataW H × List MemPlace} (ht : P.underlying t = some (.array N e)) (hc : P.cellsOf e = 1) (hN : P.cellsOf t = N) (h : DataW.trod enc P w base spare held fuel t cs = some x) :
  cs.length = N ∧ ∃ (xs : List (DataW H × List MemPlace)) (m : Nat), x = (.agg (xs.map (·.1)), xs.flatMap (·.2)) ∧ xs.length = N ∧ ∀ (i : Nat) (u : Value), cs[i]? = some u → DataW.trod enc P w base spare held m e [u] = xs[i]? := by
 obtain ⟨xs, m, _, hx, hl, hn, hel⟩ := DataW.trod_array ht h
 refine ⟨hl.trans hN, xs, m, hx, hn, fun i u hu => ?_⟩
 have hi : i < cs.length := (List.getElem?_eq_some_iff.1 hu).1
 have h1 := hel i (by rw [hl, hN] at hi; exact hi)
 rw [hc, Nat.mul_one, List.drop_eq_getElem_cons hi] at h1
 have : cs[i] = u := (List.getElem?_eq_some_iff.1 hu).2
 rw [this] at h1
 exact h1
theorem zkl {t e : TypeId} {fuel : Nat} {cs : List Value} {x : DataW H × List MemPlace} (ht : P.underlying t = some (.array 32 e)) (he : P.underlying e = some (.int .u8)) (hc : P.cellsOf e = 1) (hN : P.cellsOf t = 32) (h : DataW.trod enc P w base spare held fuel t cs = some x) : ∃ h : H32, cs = hvl h := by
 obtain ⟨hl, xs, m, _, hn, hel⟩ := zfx ht hc hN h
 obtain ⟨bs, h1, h2⟩ := zdy (p := fun i (b : UInt8) => cs[i]? = some (.int .u8 (b.toNat : Int))) 32 (fun i hi => by
  have hu : cs[i]? = some (cs[i]'ow) := List.getElem?_eq_getElem ow
  have h3 := hel i _ hu
  rw [List.getElem?_eq_getElem ow] at h3
  obtain ⟨k, h4, _, h5⟩ := DataW.trod_int he h3
  have hb := ztG h5
  refine ⟨UInt8.ofNat k.toNat, ?_⟩
  rw [hu, show cs[i]'ow = .int .u8 k by simpa using h4, UInt8.toNat_ofNat', Nat.mod_eq_of_lt ow]
  congr 2
  omega)
 refine ⟨(⟨bs, h1⟩ : H32), ?_⟩
 show cs = zad bs
 refine List.ext_getElem? fun i => ?_
 rcases Nat.lt_or_ge i 32 with hi | hi
 ·have hb : bs[i]? = some (bs[i]'ow) := List.getElem?_eq_getElem ow
  rw [h2 i _ hb]
  simp [zad, hb]
 ·rw [List.getElem?_eq_none ow, List.getElem?_eq_none (by rw [zal, h1]; exact hi)]
theorem zkm {v : Value} {l : List Value} (h : v.cells.toList = l) (hl : l.length ≠ 1) : v = .agg l.toArray := by
 rw [zcu] at h
 have h' : vl v = l := by simpa using h
 cases v <;> first
  | exact absurd (show l.length = 1 by rw [← h']; rfl) hl
  | (subst h'; rfl)
theorem zmq {t e : TypeId} {fuel : Nat} {cs : List Value} {p : List MemPlace} {ls : List W} (ht : P.underlying t = some (.array ls.length e)) (he : P.underlying e = some (.int .u32)) (hc : P.cellsOf e = 1) (hN : P.cellsOf t = ls.length)
  (h : DataW.trod enc P w base spare held fuel t cs = some (.agg (ls.map fun x => .lit (.int .u32 (x.toNat : Int))), p)) : cs = w32s ls := by
 obtain ⟨hl, xs, m, hx, hn, hel⟩ := zfx ht hc hN h
 injection hx with hx _
 injection hx with hx
 refine List.ext_getElem? fun i => ?_
 rcases Nat.lt_or_ge i ls.length with hi | hi
 ·have hu : cs[i]? = some (cs[i]'ow) := List.getElem?_eq_getElem ow
  have h3 := hel i _ hu
  rw [List.getElem?_eq_getElem ow] at h3
  obtain ⟨k, h4, h5, _⟩ := DataW.trod_int he h3
  have h6 : (ls.map fun x => (DataW.lit (.int .u32 (x.toNat : Int)) : DataW H))[i]? = (xs.map (·.1))[i]? := by rw [hx]
  rw [List.getElem?_map, List.getElem?_map, List.getElem?_eq_getElem hi, List.getElem?_eq_getElem (show i < xs.length by omega)] at h6
  simp only [Option.map_some, h5] at h6
  injection h6 with h6
  injection h6 with h6
  injection h6 with _ h6
  rw [hu, show cs[i]'ow = .int .u32 k by simpa using h4, ← h6]
  simp [w32s, hi]
 ·rw [List.getElem?_eq_none ow, List.getElem?_eq_none (by rw [zao]; exact hi)]
theorem zr4 {P : Program} {w : World} {n : String} {g : Nat} {cs : Array Value} {ls : List W} (hg : P.globalNamed n = some g) (hv : w.var? P n = some cs) (hcs : cs.toList = w32s ls) (hne : ls ≠ []) : Ro w [] (SlA (some ⟨g, 0, none⟩) (w32s ls)) := by
 have hcell : ∀ i, w.cell? ⟨g, i, none⟩ = (w32s ls)[i]? := fun i => by
  rw [World.var?_cell hg hv i, ← hcs, Array.getElem?_toList]
 refine ⟨fun j u hj => ⟨_, rfl, by rw [zbh, Nat.zero_add, hcell]; exact hj⟩, fun b hb => ⟨?_, fun hn => by cases hn⟩⟩
 rw [zcC] at hb
 obtain ⟨a, ha, rfl, _⟩ := zbx hb
 injection ha with ha
 subst ha
 obtain ⟨x, l, rfl⟩ : ∃ x l, ls = x :: l := by
  cases ls with
  | nil => exact absurd rfl hne
  | cons x l => exact ⟨x, l, rfl⟩
 exact zon (a := ⟨g, 0, none⟩) ((hcell 0).trans rfl)
end
end Go.E
namespace Go.Proofs.YtgdjcmehlhebdaaGreatDoor
open _root_.Go.Proofs.Tryz
open Go.ChangeShapes Go.WideShapes Go.ChangeAt Go.RowKit Go.E
theorem own : ownKnob prog.godebug = none := by kernel_rfl
theorem zlu : laidOutB prog = true := by kernel_rfl
theorem g0 : prog.globalNamed "entrust/sha.initials" = some 1 := by kernel_rfl
theorem g1 : prog.globalNamed "entrust/entrustref02.Initials" = some 0 := by kernel_rfl
theorem g2 : prog.globalNamed "entrust/sha.constants" = some 3 := by kernel_rfl
theorem g3 : prog.globalNamed "entrust/entrustref02.Constants" = some 2 := by kernel_rfl
theorem gt0 : (prog.globals[1]?).map (·.type) = some 224 := by kernel_rfl
theorem gt1 : (prog.globals[0]?).map (·.type) = some 224 := by kernel_rfl
theorem gt2 : (prog.globals[3]?).map (·.type) = some 302 := by kernel_rfl
theorem gt3 : (prog.globals[2]?).map (·.type) = some 302 := by kernel_rfl
theorem c223 : prog.cellsOf 223 = 1 := by kernel_rfl
theorem c224 : prog.cellsOf 224 = 8 := by kernel_rfl
theorem c302 : prog.cellsOf 302 = 64 := by kernel_rfl
theorem c5 : prog.cellsOf 5 = 1 := by kernel_rfl
theorem c49 : prog.cellsOf 49 = 32 := by kernel_rfl
abbrev zqe : List (String × DataW Unit) := [("entrust/entrustref02.Constants", Rows.laid_entrust_entrustref02_Constants), ("entrust/entrustref02.Initials", Rows.laid_entrust_entrustref02_Initials), ("entrust/sha.constants", Rows.laid_entrust_sha_constants), ("entrust/sha.initials", Rows.laid_entrust_sha_initials)]
theorem dK : (Rows.laid_entrust_sha_constants : DataW Unit) = .agg (K256.map fun x => .lit (.int .u32 (x.toNat : Int))) := by kernel_rfl
theorem dI : (Rows.laid_entrust_sha_initials : DataW Unit) = .agg (I256.map fun x => .lit (.int .u32 (x.toNat : Int))) := by kernel_rfl
theorem dRK : (Rows.laid_entrust_entrustref02_Constants : DataW Unit) = .agg (K256.map fun x => .lit (.int .u32 (x.toNat : Int))) := by kernel_rfl
theorem dRI : (Rows.laid_entrust_entrustref02_Initials : DataW Unit) = .agg (I256.map fun x => .lit (.int .u32 (x.toNat : Int))) := by kernel_rfl
theorem tabK {W : World} {n : String} {g : Nat} {cs : Array Value} {f : Nat} {p : List MemPlace} {d : DataW Unit} {spare : Nat → Bool} {held : Bool} {b : Nat} (hg : prog.globalNamed n = some g) (hv : W.var? prog n = some cs) (hd : d = .agg (K256.map fun x => .lit (.int .u32 (x.toNat : Int))))
  (h : DataW.trod (fun _ => ()) prog W b spare held f 302 cs.toList = some (d, p)) : Ro W [] (SlA (some ⟨g, 0, none⟩) (w32s K256)) :=
 zr4 hg hv (zmq underlying302 underlying223 c223 c302 (hd ▸ h)) (by decide)
theorem tabI {W : World} {n : String} {g : Nat} {cs : Array Value} {f : Nat} {p : List MemPlace} {d : DataW Unit} {spare : Nat → Bool} {held : Bool} {b : Nat} (hg : prog.globalNamed n = some g) (hv : W.var? prog n = some cs) (hd : d = .agg (I256.map fun x => .lit (.int .u32 (x.toNat : Int))))
  (h : DataW.trod (fun _ => ()) prog W b spare held f 224 cs.toList = some (d, p)) : Ro W [] (SlA (some ⟨g, 0, none⟩) (w32s I256)) :=
 zr4 hg hv (zmq underlying224 underlying223 c223 c224 (hd ▸ h)) (by decide)
theorem zrB {W : World} (h : laidMetH prog zqe W) : Tabs 3 1 W [] ∧ Tabs 2 0 W [] := by
 rw [MakeChecks.laidMetH_plain _ _ _ (by kernel_rfl)] at h
 obtain ⟨ps, ⟨a3, t3, cs3, f3, p3, q3, hg3, ht3, hv3, hd3, ⟨a1, t1, cs1, f1, p1, q1, hg1, ht1, hv1, hd1, ⟨a2, t2, cs2, f2, p2, q2, hg2, ht2, hv2, hd2, ⟨a0, t0, cs0, f0, p0, q0, hg0, ht0, hv0, hd0, _, _⟩, _⟩, _⟩, _⟩, _, _⟩ := h
 obtain rfl := Option.some.inj (g3.symm.trans hg3)
 obtain rfl := Option.some.inj (g1.symm.trans hg1)
 obtain rfl := Option.some.inj (g2.symm.trans hg2)
 obtain rfl := Option.some.inj (g0.symm.trans hg0)
 obtain rfl := Option.some.inj (gt3.symm.trans ht3)
 obtain rfl := Option.some.inj (gt1.symm.trans ht1)
 obtain rfl := Option.some.inj (gt2.symm.trans ht2)
 obtain rfl := Option.some.inj (gt0.symm.trans ht0)
 exact ⟨⟨tabK g2 hv2 dK hd2, tabI g0 hv0 dI hd0⟩, ⟨tabK g3 hv3 dRK hd3, tabI g1 hv1 dRI hd1⟩⟩
theorem zqf (os : Os) (args : Array Value) : laidMetH prog zqe ((World.doorLaid prog 29 os).forCall (fun _ _ => 0) ⟨#[], args, []⟩).memory :=
 laidMetH_of_parts3 (fuel := 8) (laidMet_of_run' 8 (by kernel_rfl) (by kernel_rfl)) (by kernel_rfl) (by kernel_rfl)
open Go.ChangeShapes Go.WideShapes Go.ChangeAt Go.RowKit Go.E Go.Deep
set_option maxRecDepth 100000
theorem c4 : prog.cellsOf 4 = 1 := by kernel_rfl
theorem c40 : prog.cellsOf 40 = 1 := by kernel_rfl
theorem c23 : prog.cellsOf 23 = 1 := by kernel_rfl
theorem c89 : prog.cellsOf 89 = 32 := by kernel_rfl
theorem c59 : prog.cellsOf 59 = 16 := by kernel_rfl
theorem c136 : prog.cellsOf 136 = 49 := by kernel_rfl
theorem c138 : prog.cellsOf 138 = 50 := by kernel_rfl
section
variable {H : Type} {enc : TypeId × Value → H} {w : World} {base : Nat} {spare : Nat → Bool} {held : Bool}
theorem zkn {α : Type} {r : Reach} {b0 : Nat} {t e : TypeId} {v : Value} {d : DataW H} {p : List MemPlace} (encL : α → List Value) {sz : Nat} (ht : prog.underlying t = some (.slice e)) (hsz : prog.cellsOf e = sz) (hpos : 0 < sz) (hlen : ∀ a, (encL a).length = sz)
  (hel : ∀ n cs y, DataW.trod enc prog w base spare held n e cs = some y → ∃ x, cs = encL x) (hval : Value.okWide prog w r b0 t v) (h : DataW.Trod enc prog w base spare held t v d p) :
  ∃ (A : OAd) (c : Nat) (xs : List α), v = .slice A xs.length c ∧ xs.length ≤ c ∧ c ≤ maxLen ∧ Ro w [] (SlA A (xs.flatMap encL)) := by
 obtain ⟨fuel, hf⟩ := h
 obtain ⟨a, l, c, rfl⟩ := okWide_slice ht hval
 exact zdZ encL ht hsz hpos hlen hel (show DataW.trod enc prog w base spare held fuel t [.slice a l c] = some (d, p) from hf)
def u64F (a : Fin 18446744073709551616) : List Value := [.int .u64 ((a.val : Nat) : Int)]
theorem zqg (l : List (Fin 18446744073709551616)) : l.flatMap u64F = u64s (l.map Fin.val) := by
 induction l with
 | nil => rfl
 | cons a l ih => rw [List.flatMap_cons, ih]; rfl
theorem zrC {n : Nat} {cs : List Value} {y : DataW H × List MemPlace} (h : DataW.trod enc prog w base spare held n 40 cs = some y) : ∃ x, cs = u64F x := by
 obtain ⟨z, e0, _, wz⟩ := DataW.trod_int underlying40 h
 have hz := zdN wz
 exact ⟨⟨z.toNat, by omega⟩, by rw [e0, u64F, Int.toNat_of_nonneg hz.1]⟩
theorem zrD {fuel : Nat} {cs : List Value} {x : DataW H × List MemPlace} (h : DataW.trod enc prog w base spare held fuel 59 cs = some x) : ∃ y : T16, cs = zad y.1 := by
 obtain ⟨hl, xs, m, _, hn, hel⟩ := zfx underlying59 c5 c59 h
 obtain ⟨bs, h1, h2⟩ := zdy (p := fun i (b : UInt8) => cs[i]? = some (.int .u8 (b.toNat : Int))) 16 (fun i hi => by
  have hu : cs[i]? = some (cs[i]'ow) := List.getElem?_eq_getElem ow
  have h3 := hel i _ hu
  rw [List.getElem?_eq_getElem ow] at h3
  obtain ⟨k, h4, _, h5⟩ := DataW.trod_int underlying5 h3
  have hb := ztG h5
  refine ⟨UInt8.ofNat k.toNat, ?_⟩
  rw [hu, show cs[i]'ow = .int .u8 k by simpa using h4, UInt8.toNat_ofNat', Nat.mod_eq_of_lt ow]
  congr 2
  omega)
 refine ⟨(⟨bs, h1⟩ : T16), ?_⟩
 show cs = zad bs
 refine List.ext_getElem? fun i => ?_
 rcases Nat.lt_or_ge i 16 with hi | hi
 ·have hb : bs[i]? = some (bs[i]'ow) := List.getElem?_eq_getElem ow
  rw [h2 i _ hb]
  simp [zad, hb]
 ·rw [List.getElem?_eq_none ow, List.getElem?_eq_none (by rw [zal, h1]; exact hi)]
theorem zrE {cs : List Value} (hl : cs.length = 49) : cs = (cs.drop 0).take 1 ++ ((cs.drop 1).take 32 ++ (cs.drop 33).take 16) := by
 rw [List.drop_zero]
 have h1 : (cs.drop 33).take 16 = cs.drop 33 := List.take_of_length_le (by rw [List.length_drop]; omega)
 have h2 : (cs.drop 1).take 32 ++ cs.drop 33 = cs.drop 1 := by
  have := List.take_append_drop 32 (cs.drop 1)
  rwa [List.drop_drop] at this
 rw [h1, h2, List.take_append_drop]
theorem zko {fuel : Nat} {cs : List Value} {x : DataW H × List MemPlace} (h : DataW.trod enc prog w base spare held fuel 136 cs = some x) : ∃ s : Sealed, cs = zaD s := by
 obtain ⟨y0, y1, y2, n, _, hl, h0, h1, h2⟩ := trod_struct3 underlying136 h
 rw [c136] at hl
 have h0' : DataW.trod enc prog w base spare held n 40 ((cs.drop 0).take 1) = some y0 := by rw [← c40]; exact h0
 have h1' : DataW.trod enc prog w base spare held n 89 ((cs.drop 1).take 32) = some y1 := by rw [← c89]; exact h1
 have h2' : DataW.trod enc prog w base spare held n 59 ((cs.drop 33).take 16) = some y2 := by rw [← c59]; exact h2
 obtain ⟨z, e0, _, wz⟩ := DataW.trod_int underlying40 h0'
 obtain ⟨hh, e1⟩ := zkl underlying89 underlying5 c5 c89 h1'
 obtain ⟨tg, e2⟩ := zrD h2'
 have hz := zdN wz
 refine ⟨⟨z.toNat, by omega, hh, tg⟩, ?_⟩
 rw [zrE hl, e0, e1, e2, zaD, Int.toNat_of_nonneg hz.1]
 rfl
theorem zqh {fuel : Nat} {cs : List Value} {x : DataW H × List MemPlace} (h : DataW.trod enc prog w base spare held fuel 138 cs = some x) : ∃ s : Go.E.Item, cs = zaT s := by
 obtain ⟨y0, y1, n, _, hl, h0, h1⟩ := trod_struct2 underlying138 h
 rw [c138] at hl
 have h0' : DataW.trod enc prog w base spare held n 4 ((cs.drop 0).take 1) = some y0 := by rw [← c4]; exact h0
 have h1' : DataW.trod enc prog w base spare held n 136 ((cs.drop 1).take 49) = some y1 := by rw [← c136]; exact h1
 obtain ⟨b, e0, _⟩ := DataW.trod_bool underlying4 h0'
 obtain ⟨s, e1⟩ := zko h1'
 refine ⟨⟨b, s⟩, ?_⟩
 have e : cs = (cs.drop 0).take 1 ++ (cs.drop 1).take 49 := by
  rw [List.drop_zero, List.take_of_length_le (by rw [List.length_drop]; omega : (cs.drop 1).length ≤ 49), List.take_append_drop]
 rw [e, e0, e1]; rfl
theorem zlv {n : Nat} {v : Value} {x : DataW H × List MemPlace} (h : DataW.trod enc prog w base spare held n 23 [v] = some x) :
  ∃ (A : OAd) (c : Nat) (l : List Go.E.Item), v = .slice A l.length c ∧ l.length ≤ c ∧ Ro w [] (SlA A (l.flatMap zaT)) := by
 obtain ⟨d, p⟩ := x
 obtain ⟨A, c, l, rfl, h2, _, h4⟩ := zdZ zaT underlying23 c138 (by decide) zax (fun n cs y => zqh) h
 exact ⟨A, c, l, rfl, h2, h4⟩
end
theorem c3 : prog.cellsOf 3 = 1 := by kernel_rfl
theorem c22 : prog.cellsOf 22 = 1 := by kernel_rfl
theorem c33 : prog.cellsOf 33 = 1 := by kernel_rfl
theorem c56 : prog.cellsOf 56 = 1 := by kernel_rfl
theorem c58 : prog.cellsOf 58 = 4 := by kernel_rfl
theorem c63 : prog.cellsOf 63 = 28 := by kernel_rfl
theorem c65 : prog.cellsOf 65 = 29 := by kernel_rfl
theorem c67 : prog.cellsOf 67 = 61 := by kernel_rfl
theorem zfM {cs : List Value} {o : Nat} (h : o < cs.length) : ∃ v, cs[o]? = some v ∧ (cs.drop o).take 1 = [v] := by
 refine ⟨cs[o], List.getElem?_eq_getElem h, ?_⟩
 rw [List.drop_eq_getElem_cons h]; rfl
section
variable {H : Type} {enc : TypeId × Value → H} {w : World} {base : Nat} {spare : Nat → Bool} {held : Bool}
theorem zhe {n : Nat} {v : Value} {x : DataW H × List MemPlace} (h : DataW.trod enc prog w base spare held n 22 [v] = some x) :
  ∃ (A : OAd) (c : Nat) (xs : List Nat), v = .slice A xs.length c ∧ xs.length ≤ c ∧ (∀ x ∈ xs, x < 18446744073709551616) ∧ Ro w [] (SlA A (u64s xs)) := by
 obtain ⟨d, p⟩ := x
 obtain ⟨A, c, l, rfl, h1, h2, h3⟩ := zdZ u64F underlying22 c40 (by decide) (fun _ => rfl) (fun n cs y => zrC) h
 refine ⟨A, c, l.map Fin.val, by rw [List.length_map], by rw [List.length_map]; exact h1, fun x hx => ?_, by rw [← zqg]; exact h3⟩
 obtain ⟨a, _, rfl⟩ := List.mem_map.1 hx
 exact a.isLt
theorem zfN {n : Nat} {v : Value} {x : DataW H × List MemPlace} (h : DataW.trod enc prog w base spare held n 33 [v] = some x) :
  ∃ (A : OAd) (c : Nat) (xs : List H32), v = .slice A xs.length c ∧ xs.length ≤ c ∧ Ro w [] (SlA A (hcs xs)) := by
 obtain ⟨d, p⟩ := x
 obtain ⟨A, c, ps, rfl, h2, _, h4⟩ := zdZ hvl underlying33 c49 (by decide) zag (fun n cs y => zkl underlying49 underlying5 c5 c49) h
 exact ⟨A, c, ps, rfl, h2, h4⟩
theorem zlw {n : Nat} {v : Value} {x : DataW H × List MemPlace} (h : DataW.trod enc prog w base spare held n 56 [v] = some x) :
  ∃ (A : OAd) (c : Nat) (xs : List Sealed), v = .slice A xs.length c ∧ xs.length ≤ c ∧ Ro w [] (SlA A (xs.flatMap zaD)) := by
 obtain ⟨d, p⟩ := x
 obtain ⟨A, c, ps, rfl, h2, _, h4⟩ := zdZ zaD underlying56 c136 (by decide) zam (fun n cs y => zko) h
 exact ⟨A, c, ps, rfl, h2, h4⟩
theorem zmr {n o : Nat} {cs : List Value} {y : DataW H × List MemPlace} (h : DataW.trod enc prog w base spare held n 3 ((cs.drop o).take 1) = some y) (ho : o < cs.length) : ∃ k : Int, cs[o]? = some (.int .i64 k) ∧ -9223372036854775808 ≤ k ∧ k ≤ 9223372036854775807 := by
 obtain ⟨v, h1, h2⟩ := zfM ho
 rw [h2] at h
 obtain ⟨k, e0, _, wk⟩ := DataW.trod_int underlying3 h
 obtain rfl : v = .int .i64 k := by simpa using e0
 exact ⟨k, h1, zom wk⟩
theorem zr5 {n o : Nat} {cs : List Value} {y : DataW H × List MemPlace} (h : DataW.trod enc prog w base spare held n 40 ((cs.drop o).take 1) = some y) (ho : o < cs.length) : ∃ k : Nat, cs[o]? = some (.int .u64 (k : Int)) ∧ k < 18446744073709551616 := by
 obtain ⟨v, h1, h2⟩ := zfM ho
 rw [h2] at h
 obtain ⟨z, e0, _, wz⟩ := DataW.trod_int underlying40 h
 obtain rfl : v = .int .u64 z := by simpa using e0
 have hz := zdN wz
 exact ⟨z.toNat, by rw [Int.toNat_of_nonneg hz.1]; exact h1, by omega⟩
theorem zms {n : Nat} {cs : List Value} {y : DataW H × List MemPlace} (h : DataW.trod enc prog w base spare held n 58 cs = some y) : ∃ x : OrdA, x.Ok w ∧ cs = ordL x := by
 obtain ⟨xs, m, _, _, hl, hn, hg⟩ := DataW.trod_struct underlying58 h
 rw [c58] at hl
 have hx (i : Nat) (hi : i < 4) : ∃ y, xs[i]? = some y := ⟨_, List.getElem?_eq_getElem (by rw [hn]; exact hi)⟩
 obtain ⟨y0, e0⟩ := hx 0 (by decide)
 obtain ⟨y1, e1⟩ := hx 1 (by decide)
 obtain ⟨y2, e2⟩ := hx 2 (by decide)
 obtain ⟨y3, e3⟩ := hx 3 (by decide)
 have g0 : DataW.trod enc prog w base spare held m 3 ((cs.drop 0).take (prog.cellsOf 3)) = some y0 := (hg 0 _ rfl).trans e0
 have g1 : DataW.trod enc prog w base spare held m 22 ((cs.drop 1).take (prog.cellsOf 22)) = some y1 := (hg 1 _ rfl).trans e1
 have g2 : DataW.trod enc prog w base spare held m 56 ((cs.drop 2).take (prog.cellsOf 56)) = some y2 := (hg 2 _ rfl).trans e2
 have g3 : DataW.trod enc prog w base spare held m 40 ((cs.drop 3).take (prog.cellsOf 40)) = some y3 := (hg 3 _ rfl).trans e3
 rw [c3] at g0
 rw [c22] at g1
 rw [c56] at g2
 rw [c40] at g3
 obtain ⟨k, k0, _, _⟩ := zmr g0 ow
 obtain ⟨v1, a1, b1⟩ := zfM (cs := cs) (o := 1) ow
 rw [b1] at g1
 obtain ⟨A, c, xs1, rfl, i1, i2, i3⟩ := zhe g1
 obtain ⟨v2, a2, b2⟩ := zfM (cs := cs) (o := 2) ow
 rw [b2] at g2
 obtain ⟨B, d, ss, rfl, j1, j3⟩ := zlw g2
 obtain ⟨z, z0, z1⟩ := zr5 g3 ow
 refine ⟨⟨A, c, B, d, ⟨k, xs1, ss, z⟩⟩, ⟨i1, i2, z1, i3, j3⟩, ?_⟩
 refine List.ext_getElem? fun i => ?_
 match i with
 | 0 => exact k0
 | 1 => exact a1
 | 2 => exact a2
 | 3 => exact z0
 | (i + 4) => rw [List.getElem?_eq_none ow, List.getElem?_eq_none (by rw [zcI]; omega)]
theorem zrF {n : Nat} {cs : List Value} {y : DataW H × List MemPlace} (h : DataW.trod enc prog w base spare held n 63 cs = some y) : ∃ q : ReqA, q.Ok w ∧ cs = q.rq := by
 obtain ⟨xs, m, _, _, hl, hn, hg⟩ := DataW.trod_struct underlying63 h
 rw [c63] at hl
 have hx (i : Nat) (hi : i < 7) : ∃ y, xs[i]? = some y := ⟨_, List.getElem?_eq_getElem (by rw [hn]; exact hi)⟩
 obtain ⟨y1, e1⟩ := hx 1 (by decide)
 obtain ⟨y2, e2⟩ := hx 2 (by decide)
 obtain ⟨y3, e3⟩ := hx 3 (by decide)
 obtain ⟨y4, e4⟩ := hx 4 (by decide)
 have g1 : DataW.trod enc prog w base spare held m 3 ((cs.drop 1).take (prog.cellsOf 3)) = some y1 := (hg 1 _ rfl).trans e1
 have g2 : DataW.trod enc prog w base spare held m 22 ((cs.drop 2).take (prog.cellsOf 22)) = some y2 := (hg 2 _ rfl).trans e2
 have g3 : DataW.trod enc prog w base spare held m 40 ((cs.drop 3).take (prog.cellsOf 40)) = some y3 := (hg 3 _ rfl).trans e3
 have g4 : DataW.trod enc prog w base spare held m 3 ((cs.drop 4).take (prog.cellsOf 3)) = some y4 := (hg 4 _ rfl).trans e4
 rw [c3] at g1 g4
 rw [c22] at g2
 rw [c40] at g3
 obtain ⟨k, k1, _, _⟩ := zmr g1 ow
 obtain ⟨v2, a2, b2⟩ := zfM (cs := cs) (o := 2) ow
 rw [b2] at g2
 obtain ⟨A, c, xs1, rfl, i1, i2, i3⟩ := zhe g2
 obtain ⟨z, z0, z1⟩ := zr5 g3 ow
 obtain ⟨q, q0, q1, q2⟩ := zmr g4 ow
 exact ⟨⟨cs, k, A, c, xs1, z, q, hl, k1, a2, z0, q0⟩, ⟨i1, i2, z1, q1, q2, i3⟩, rfl⟩
theorem zrG {n : Nat} {cs : List Value} {y : DataW H × List MemPlace} (h : DataW.trod enc prog w base spare held n 65 cs = some y) : ∃ p : RepA, p.Ok w ∧ cs = p.rs := by
 obtain ⟨xs, m, _, _, hl, hn, hg⟩ := DataW.trod_struct underlying65 h
 rw [c65] at hl
 have hx (i : Nat) (hi : i < 8) : ∃ y, xs[i]? = some y := ⟨_, List.getElem?_eq_getElem (by rw [hn]; exact hi)⟩
 obtain ⟨y2, e2⟩ := hx 2 (by decide)
 obtain ⟨y3, e3⟩ := hx 3 (by decide)
 obtain ⟨y6, e6⟩ := hx 6 (by decide)
 obtain ⟨y7, e7⟩ := hx 7 (by decide)
 have g2 : DataW.trod enc prog w base spare held m 3 ((cs.drop 2).take (prog.cellsOf 3)) = some y2 := (hg 2 _ rfl).trans e2
 have g3 : DataW.trod enc prog w base spare held m 23 ((cs.drop 3).take (prog.cellsOf 23)) = some y3 := (hg 3 _ rfl).trans e3
 have g6 : DataW.trod enc prog w base spare held m 33 ((cs.drop 27).take (prog.cellsOf 33)) = some y6 := (hg 6 _ rfl).trans e6
 have g7 : DataW.trod enc prog w base spare held m 33 ((cs.drop 28).take (prog.cellsOf 33)) = some y7 := (hg 7 _ rfl).trans e7
 rw [c3] at g2
 rw [c23] at g3
 rw [c33] at g6 g7
 obtain ⟨k, k2, _, _⟩ := zmr g2 ow
 obtain ⟨v3, a3, b3⟩ := zfM (cs := cs) (o := 3) ow
 rw [b3] at g3
 obtain ⟨I, i, its, rfl, i1, i2⟩ := zlv g3
 obtain ⟨v6, a6, b6⟩ := zfM (cs := cs) (o := 27) ow
 rw [b6] at g6
 obtain ⟨P, p, pa, rfl, p1, p2⟩ := zfN g6
 obtain ⟨v7, a7, b7⟩ := zfM (cs := cs) (o := 28) ow
 rw [b7] at g7
 obtain ⟨Q, q, pb, rfl, q1, q2⟩ := zfN g7
 exact ⟨⟨cs, k, I, i, its, P, p, pa, Q, q, pb, hl, k2, a3, a6, a7⟩, ⟨i1, p1, q1, i2, p2, q2⟩, rfl⟩
theorem zs0 {cs : List Value} (hl : cs.length = 61) : cs = (cs.drop 0).take 28 ++ ((cs.drop 28).take 29 ++ (cs.drop 57).take 4) := by
 rw [List.drop_zero]
 have h1 : (cs.drop 57).take 4 = cs.drop 57 := List.take_of_length_le (by rw [List.length_drop]; omega)
 have h2 : (cs.drop 28).take 29 ++ cs.drop 57 = cs.drop 28 := by
  have := List.take_append_drop 29 (cs.drop 28)
  rwa [List.drop_drop] at this
 rw [h1, h2, List.take_append_drop]
theorem zrH {v : Value} {d : DataW H} {p : List MemPlace} (h : DataW.Trod enc prog w base spare held 67 v d p) :
  ∃ (q : ReqA) (r : RepA) (x : OrdA), v = .agg (askL q r x).toArray ∧ q.Ok w ∧ r.Ok w ∧ x.Ok w := by
 obtain ⟨fuel, hf⟩ := h
 obtain ⟨y0, y1, y2, n, _, hl, h0, h1, h2⟩ := trod_struct3 underlying67 hf
 rw [c67] at hl
 have h0' : DataW.trod enc prog w base spare held n 63 ((v.cells.toList.drop 0).take 28) = some y0 := by rw [← c63]; exact h0
 have h1' : DataW.trod enc prog w base spare held n 65 ((v.cells.toList.drop 28).take 29) = some y1 := by rw [← c65]; exact h1
 have h2' : DataW.trod enc prog w base spare held n 58 ((v.cells.toList.drop 57).take 4) = some y2 := by rw [← c58]; exact h2
 obtain ⟨q, hq, e0⟩ := zrF h0'
 obtain ⟨r, hr, e1⟩ := zrG h1'
 obtain ⟨x, hx, e2⟩ := zms h2'
 refine ⟨q, r, x, zkm ?_ (by rw [zcJ]; decide), hq, hr, hx⟩
 rw [zs0 hl, e0, e1, e2]; rfl
end
theorem by58 : prog.bytesOf 58 = 64 := by kernel_rfl
theorem znD {P : Program} {w : World} {r : Reach} {b : Nat} {u : TypeId} {v : Value} (h : Cell.okWide P w r b u v) : v.oneCell' = true := by
 cases v <;> first | rfl | (exfalso; simp only [Cell.okWide, Cell.ok] at h; split at h <;> simp_all)
section
variable {H : Type} {enc : TypeId × Value → H} {w : World} {base : Nat} {spare : Nat → Bool} {held : Bool}
theorem zlx {r : Reach} {b0 : Nat} {v : Value} {d : DataW H} {p : List MemPlace} (hval : Value.okWide prog w r b0 55 v) (h : DataW.Trod enc prog w base spare held 55 v d p) (hw : (d.weights prog 55).all (· ≤ reachBytes) = true) :
  ∃ (A : OAd) (c : Nat) (os : List OrdA), v = .slice A os.length c ∧ (∀ o ∈ os, o.Ok w) ∧ Ro w [] (SlA A (os.flatMap ordL)) ∧ os.length ≤ 2199023255488 := by
 obtain ⟨A, c, l, rfl, h1, h2, h3⟩ := zkn (fun x : {x : OrdA // x.Ok w} => ordL x.1) underlying55 c58 (by decide) (fun _ => rfl) (fun n cs y hh => by obtain ⟨x, hx, e⟩ := zms hh; exact ⟨⟨x, hx⟩, e⟩) hval h
 refine ⟨A, c, l.map (·.1), by rw [List.length_map], fun o ho => ?_, by rw [List.flatMap_map]; exact h3, ?_⟩
 ·obtain ⟨a, _, rfl⟩ := List.mem_map.1 ho
  exact a.2
 ·rw [List.length_map]
  obtain ⟨fuel, hf⟩ := h
  rcases DataW.trod_slice underlying55 (show DataW.trod enc prog w base spare held fuel 55 [.slice A l.length c] = some (d, p) from hf) with ⟨e, _⟩ | ⟨a, len, cap, elems, rest, n, _, e, hx, _, _, _, hl, _⟩
  ·injection e with e _
   injection e with _ e _
   omega
  ·injection e with e _
   injection e with _ e _
   injection hx with hx _
   subst hx
   simp only [DataW.weights, underlying55, List.all_cons, Bool.and_eq_true, by58, reachBytes, List.length_map] at hw
   have hw1 := of_decide_eq_true hw.1
   omega
theorem zs3 {r : Reach} {b0 : Nat} {q : ReqA} {p : RepA} {x : OrdA} (h : Value.okWide prog w r b0 67 (.agg (askL q p x).toArray)) : q.rq.all (·.oneCell') = true ∧ p.rs.all (·.oneCell') = true := by
 simp only [Value.okWide, underlying67] at h
 obtain ⟨cs, e, _, ts, _, _, hc⟩ := h
 injection e with e
 subst e
 have hall : ∀ v ∈ askL q p x, v.oneCell' = true := fun v hv => by
  obtain ⟨i, hi, rfl⟩ := List.mem_iff_getElem.1 hv
  obtain ⟨u, _, hu⟩ := hc i _ (by rw [List.getElem?_toArray, List.getElem?_eq_getElem hi])
  exact znD hu
 exact ⟨List.all_eq_true.2 fun v hv => hall v (List.mem_append.2 (.inl hv)), List.all_eq_true.2 fun v hv => hall v (List.mem_append.2 (.inr (List.mem_append.2 (.inl hv))))⟩
theorem zly {P : Program} {a b : TypeId} {d0 d1 : DataW H} {ts : List TypeId} {ds : List (DataW H)} (h : (DataW.weightsEach P (a :: b :: ts) (d0 :: d1 :: ds)).all (· ≤ reachBytes) = true) : (d1.weights P b).all (· ≤ reachBytes) = true := by
 simp only [DataW.weightsEach, List.all_append, Bool.and_eq_true] at h
 exact h.2.1
end
end Go.Proofs.YtgdjcmehlhebdaaGreatDoor
