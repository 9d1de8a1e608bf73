/-
  What the rows' condition on the listed variables gives the walks: the tables of the hash, for the program and for the document.
-/
import Derived.Test.YtlneklemjfefpaaDoorLB
import Derived.Test.YtlneklemjfefpaaDoorTA
import Derived.Test.YtlneklemjfefpaaDoorRows
import Derived.Test.YtlneklemjfefpaaDoorTie
import Derived.Test.YtlneklemjfefpaaDoorCards
import Derived.WalkKit
import Derived.ProofKit
import Derived.LaidMore
import Derived.OpenShut
import Derived.ShutString
import Derived.ChangeOld
import Derived.Stop.Joined
import Derived.SevenTiedAt
namespace Go.Proofs.YtlneklemjfefpaaDoor
open Go.ChangeShapes Go.WideShapes Go.ChangeAt Go.RowKit Go.E
set_option linter.unusedVariables false
theorem own : ownKnob Tryd.prog.godebug = none := by kernel_rfl
theorem laidOut : laidOutB Tryd.prog = true := by kernel_rfl
theorem g0 : Tryd.prog.globalNamed "entrust/sha.initials" = some 0 := by kernel_rfl
theorem g1 : Tryd.prog.globalNamed "entrust/entrustref02.Initials" = some 1 := by kernel_rfl
theorem g2 : Tryd.prog.globalNamed "entrust/sha.constants" = some 2 := by kernel_rfl
theorem g3 : Tryd.prog.globalNamed "entrust/entrustref02.Constants" = some 3 := by kernel_rfl
theorem gt0 : (Tryd.prog.globals[0]?).map (·.type) = some 209 := by kernel_rfl
theorem gt1 : (Tryd.prog.globals[1]?).map (·.type) = some 209 := by kernel_rfl
theorem gt2 : (Tryd.prog.globals[2]?).map (·.type) = some 231 := by kernel_rfl
theorem gt3 : (Tryd.prog.globals[3]?).map (·.type) = some 231 := by kernel_rfl
theorem c208 : Tryd.prog.cellsOf 208 = 1 := by kernel_rfl
theorem c209 : Tryd.prog.cellsOf 209 = 8 := by kernel_rfl
theorem c231 : Tryd.prog.cellsOf 231 = 64 := by kernel_rfl
theorem c5 : Tryd.prog.cellsOf 5 = 1 := by kernel_rfl
theorem c23 : Tryd.prog.cellsOf 23 = 32 := by kernel_rfl
abbrev laid4 : List (String × DataW Unit) := [("entrust/entrustref02.Constants", Rows.laid_entrust_entrustref02_Constants), ("entrust/entrustref02.Initials", Rows.laid_entrust_entrustref02_Initials), ("entrust/sha.constants", Rows.laid_entrust_sha_constants), ("entrust/sha.initials", Rows.laid_entrust_sha_initials)]
abbrev laid2 : List (String × DataW Unit) := [("entrust/sha.constants", Rows.laid_entrust_sha_constants), ("entrust/sha.initials", Rows.laid_entrust_sha_initials)]
theorem dK : (Rows.laid_entrust_sha_constants : DataW Unit) = .agg (K256.map fun x => .lit (.int .u32 (x.toNat : Int))) := by kernel_rfl
theorem dI : (Rows.laid_entrust_sha_initials : DataW Unit) = .agg (I256.map fun x => .lit (.int .u32 (x.toNat : Int))) := by kernel_rfl
theorem dRK : (Rows.laid_entrust_entrustref02_Constants : DataW Unit) = .agg (K256.map fun x => .lit (.int .u32 (x.toNat : Int))) := by kernel_rfl
theorem dRI : (Rows.laid_entrust_entrustref02_Initials : DataW Unit) = .agg (I256.map fun x => .lit (.int .u32 (x.toNat : Int))) := by kernel_rfl
theorem tabK {W : World} {n : String} {g : Nat} {cs : Array Value} {f : Nat} {p : List MemPlace} {d : DataW Unit} {spare : Nat → Bool} {held : Bool} {b : Nat} (hg : Tryd.prog.globalNamed n = some g) (hv : W.var? Tryd.prog n = some cs) (hd : d = .agg (K256.map fun x => .lit (.int .u32 (x.toNat : Int))))
    (h : DataW.trod (fun _ => ()) Tryd.prog W b spare held f 231 cs.toList = some (d, p)) : Ro W [] (SlA (some ⟨g, 0, none⟩) (w32s K256)) :=
  tab_ro hg hv (trod_w32 Tryd.underlying231 Tryd.underlying208 c208 c231 (hd ▸ h)) (by decide)
theorem tabI {W : World} {n : String} {g : Nat} {cs : Array Value} {f : Nat} {p : List MemPlace} {d : DataW Unit} {spare : Nat → Bool} {held : Bool} {b : Nat} (hg : Tryd.prog.globalNamed n = some g) (hv : W.var? Tryd.prog n = some cs) (hd : d = .agg (I256.map fun x => .lit (.int .u32 (x.toNat : Int))))
    (h : DataW.trod (fun _ => ()) Tryd.prog W b spare held f 209 cs.toList = some (d, p)) : Ro W [] (SlA (some ⟨g, 0, none⟩) (w32s I256)) :=
  tab_ro hg hv (trod_w32 Tryd.underlying209 Tryd.underlying208 c208 c209 (hd ▸ h)) (by decide)
theorem of_laid4 {W : World} (h : laidMetH Tryd.prog laid4 W) : Tabs 2 0 W [] ∧ Tabs 3 1 W [] := by
  rw [MakeChecks.laidMetH_plain _ _ _ (by kernel_rfl)] at h
  obtain ⟨ps, ⟨a3, t3, cs3, f3, p3, q3, hg3, ht3, hv3, hd3, ⟨a1, t1, cs1, f1, p1, q1, hg1, ht1, hv1, hd1, ⟨a2, t2, cs2, f2, p2, q2, hg2, ht2, hv2, hd2, ⟨a0, t0, cs0, f0, p0, q0, hg0, ht0, hv0, hd0, _, _⟩, _⟩, _⟩, _⟩, _, _⟩ := h
  obtain rfl := Option.some.inj (g3.symm.trans hg3)
  obtain rfl := Option.some.inj (g1.symm.trans hg1)
  obtain rfl := Option.some.inj (g2.symm.trans hg2)
  obtain rfl := Option.some.inj (g0.symm.trans hg0)
  obtain rfl := Option.some.inj (gt3.symm.trans ht3)
  obtain rfl := Option.some.inj (gt1.symm.trans ht1)
  obtain rfl := Option.some.inj (gt2.symm.trans ht2)
  obtain rfl := Option.some.inj (gt0.symm.trans ht0)
  exact ⟨⟨tabK g2 hv2 dK hd2, tabI g0 hv0 dI hd0⟩, ⟨tabK g3 hv3 dRK hd3, tabI g1 hv1 dRI hd1⟩⟩
theorem of_laid2 {W : World} (h : laidMetH Tryd.prog laid2 W) : Tabs 2 0 W [] := by
  rw [MakeChecks.laidMetH_plain _ _ _ (by kernel_rfl)] at h
  obtain ⟨ps, ⟨a2, t2, cs2, f2, p2, q2, hg2, ht2, hv2, hd2, ⟨a0, t0, cs0, f0, p0, q0, hg0, ht0, hv0, hd0, _, _⟩, _⟩, _, _⟩ := h
  obtain rfl := Option.some.inj (g2.symm.trans hg2)
  obtain rfl := Option.some.inj (g0.symm.trans hg0)
  obtain rfl := Option.some.inj (gt2.symm.trans ht2)
  obtain rfl := Option.some.inj (gt0.symm.trans ht0)
  exact ⟨tabK g2 hv2 dK hd2, tabI g0 hv0 dI hd0⟩
theorem door_met4 (os : Os) (args : Array Value) : laidMetH Tryd.prog laid4 ((World.doorLaid Tryd.prog 29 os).forCall (fun _ _ => 0) ⟨#[], args, []⟩).memory :=
  laidMetH_of_parts3 (fuel := 8) (laidMet_of_run' 8 (by kernel_rfl) (by kernel_rfl)) (by kernel_rfl) (by kernel_rfl)
theorem door_met2 (os : Os) (args : Array Value) : laidMetH Tryd.prog laid2 ((World.doorLaid Tryd.prog 29 os).forCall (fun _ _ => 0) ⟨#[], args, []⟩).memory :=
  laidMetH_of_parts3 (fuel := 8) (laidMet_of_run' 8 (by kernel_rfl) (by kernel_rfl)) (by kernel_rfl) (by kernel_rfl)
end Go.Proofs.YtlneklemjfefpaaDoor
