/-
  DERIVED. GIVEN WITH THE SEED: THE CARDS: each row of YtgdjcmehlhebdaaGreatDoorRows.lean that lists a variable, with what it lists TIED to the program's text (the seventh form; the later family's looks); each row that meets fmt, with fmt's text TOLD by the authors' own Lean function (tested against real Go, not proved from fmt's source: count such statements apart). THE CARD IS WHAT COUNTS. Prove the row's statement (the work); the ties are given (YtgdjcmehlhebdaaGreatDoorTie.lean); close each card by the builder's one call (the guide's Derived/Test/ToyasCard.lean, 'card_holds'). Laid BY PROGRAM, IN A SANDBOX (cutbox-door.mjs). By AI agents, Wed Nov 11 2026. No macro, syntax, notation, axiom, sorry.
-/
import Derived.Test.YtgdjcmehlhebdaaGreatDoorRows
import GoSem.ClaimSeven
namespace Go.Proofs.YtgdjcmehlhebdaaGreatDoor
namespace Rows

/-- THE TIED CARD OF 'entrustlaw32.ExtractItems'. -/
def extractItemsCard : Claim7 := { stood := { row := extractItemsRow, standIns := [], harness := (true, "4c16785e4191ca16ea72c4adef5eb6638e00517cd767ae6afbc15addc7395fef"), looks := true }, kinds := [], alts := [], laidByText := true, laidKinds := [.data, .data, .data, .data], laidTests := true, laidLooks := .later }
def ExtractItemsCardSaid : Prop := Claim7.holds Tryz.pinned (.plain (OpenSpec.ofChange extractItemsSpec)) extractItemsCard

/-- THE TIED CARD OF 'entrustlaw32.ExtractSides'. -/
def extractSidesCard : Claim7 := { stood := { row := extractSidesRow, standIns := [], harness := (true, "4c16785e4191ca16ea72c4adef5eb6638e00517cd767ae6afbc15addc7395fef"), looks := true }, kinds := [], alts := [], laidByText := true, laidKinds := [.data, .data, .data, .data], laidTests := true, laidLooks := .later }
def ExtractSidesCardSaid : Prop := Claim7.holds Tryz.pinned (.plain (OpenSpec.ofChange extractSidesSpec)) extractSidesCard

/-- THE TIED CARD OF 'entrustlaw32.ExtractTruths'. -/
def extractTruthsCard : Claim7 := { stood := { row := extractTruthsRow, standIns := [], harness := (true, "4c16785e4191ca16ea72c4adef5eb6638e00517cd767ae6afbc15addc7395fef"), looks := true }, kinds := [], alts := [], laidByText := true, laidKinds := [.data, .data, .data, .data], laidTests := true, laidLooks := .later }
def ExtractTruthsCardSaid : Prop := Claim7.holds Tryz.pinned (.plain (OpenSpec.ofChange extractTruthsSpec)) extractTruthsCard

/-- THE TIED CARD OF 'entrustlaw32.ExtractFinds'. -/
def extractFindsCard : Claim7 := { stood := { row := extractFindsRow, standIns := [], harness := (true, "4c16785e4191ca16ea72c4adef5eb6638e00517cd767ae6afbc15addc7395fef"), looks := true }, kinds := [], alts := [], laidByText := true, laidKinds := [.data, .data, .data, .data], laidTests := true, laidLooks := .later }
def ExtractFindsCardSaid : Prop := Claim7.holds Tryz.pinned (.plain (OpenSpec.ofChange extractFindsSpec)) extractFindsCard

/-- THE TIED CARD OF 'entrustlaw32.ExtractBlames'. -/
def extractBlamesCard : Claim7 := { stood := { row := extractBlamesRow, standIns := [], harness := (true, "4c16785e4191ca16ea72c4adef5eb6638e00517cd767ae6afbc15addc7395fef"), looks := true }, kinds := [], alts := [], laidByText := true, laidKinds := [.data, .data, .data, .data], laidTests := true, laidLooks := .later }
def ExtractBlamesCardSaid : Prop := Claim7.holds Tryz.pinned (.plain (OpenSpec.ofChange extractBlamesSpec)) extractBlamesCard

/-- THE SECOND FORM's CARD OF 'entrustlaw32.ExtractItems'. -/
def extractItemsUptoCard : Claim7 := { stood := { row := extractItemsUptoRow, standIns := [], harness := (true, "4c16785e4191ca16ea72c4adef5eb6638e00517cd767ae6afbc15addc7395fef"), looks := true }, kinds := [], alts := [], laidByText := true, laidKinds := [.data, .data, .data, .data], laidTests := true, laidLooks := .later }
def ExtractItemsUptoCardSaid : Prop := Claim7.holds Tryz.pinned (.plain (OpenSpec.upto extractItemsSpec)) extractItemsUptoCard

/-- THE SECOND FORM's CARD OF 'entrustlaw32.ExtractSides'. -/
def extractSidesUptoCard : Claim7 := { stood := { row := extractSidesUptoRow, standIns := [], harness := (true, "4c16785e4191ca16ea72c4adef5eb6638e00517cd767ae6afbc15addc7395fef"), looks := true }, kinds := [], alts := [], laidByText := true, laidKinds := [.data, .data, .data, .data], laidTests := true, laidLooks := .later }
def ExtractSidesUptoCardSaid : Prop := Claim7.holds Tryz.pinned (.plain (OpenSpec.upto extractSidesSpec)) extractSidesUptoCard

/-- THE SECOND FORM's CARD OF 'entrustlaw32.ExtractTruths'. -/
def extractTruthsUptoCard : Claim7 := { stood := { row := extractTruthsUptoRow, standIns := [], harness := (true, "4c16785e4191ca16ea72c4adef5eb6638e00517cd767ae6afbc15addc7395fef"), looks := true }, kinds := [], alts := [], laidByText := true, laidKinds := [.data, .data, .data, .data], laidTests := true, laidLooks := .later }
def ExtractTruthsUptoCardSaid : Prop := Claim7.holds Tryz.pinned (.plain (OpenSpec.upto extractTruthsSpec)) extractTruthsUptoCard

/-- THE SECOND FORM's CARD OF 'entrustlaw32.ExtractFinds'. -/
def extractFindsUptoCard : Claim7 := { stood := { row := extractFindsUptoRow, standIns := [], harness := (true, "4c16785e4191ca16ea72c4adef5eb6638e00517cd767ae6afbc15addc7395fef"), looks := true }, kinds := [], alts := [], laidByText := true, laidKinds := [.data, .data, .data, .data], laidTests := true, laidLooks := .later }
def ExtractFindsUptoCardSaid : Prop := Claim7.holds Tryz.pinned (.plain (OpenSpec.upto extractFindsSpec)) extractFindsUptoCard

/-- THE SECOND FORM's CARD OF 'entrustlaw32.ExtractBlames'. -/
def extractBlamesUptoCard : Claim7 := { stood := { row := extractBlamesUptoRow, standIns := [], harness := (true, "4c16785e4191ca16ea72c4adef5eb6638e00517cd767ae6afbc15addc7395fef"), looks := true }, kinds := [], alts := [], laidByText := true, laidKinds := [.data, .data, .data, .data], laidTests := true, laidLooks := .later }
def ExtractBlamesUptoCardSaid : Prop := Claim7.holds Tryz.pinned (.plain (OpenSpec.upto extractBlamesSpec)) extractBlamesUptoCard
end Rows
end Go.Proofs.YtgdjcmehlhebdaaGreatDoor
