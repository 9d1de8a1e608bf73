/-
  DERIVED. GIVEN WITH THE SEED: THE CARDS: each row of YtgdjcmehlhebdaaDoorRows.lean that lists a variable, with what it lists TIED to the program's text (the seventh form; the later family's looks); each row that meets fmt, with fmt's text TOLD by the authors' own Lean function (tested against real Go, not proved from fmt's source: count such statements apart). THE CARD IS WHAT COUNTS. Prove the row's statement (the work); the ties are given (YtgdjcmehlhebdaaDoorTie.lean); close each card by the builder's one call (the guide's Derived/Test/ToyasCard.lean, 'card_holds'). Laid BY PROGRAM, IN A SANDBOX (cutbox-door.mjs). By AI agents, Wed Nov 11 2026. No macro, syntax, notation, axiom, sorry.
-/
import Derived.Test.YtgdjcmehlhebdaaDoorRows
import GoSem.ClaimSeven
namespace Go.Proofs.YtgdjcmehlhebdaaDoor
namespace Rows

/-- THE TIED CARD OF 'entrustlaw32.ExtractPaths'. -/
def extractPathsCard : Claim7 := { stood := { row := extractPathsRow, standIns := [], harness := (true, "8af6b201b59b9d417e678cbfc35db89c77718503b8fb24c52cc0346cd16ae94b"), looks := false }, kinds := [], alts := [], laidByText := true, laidKinds := [.data, .data, .data, .data], laidTests := true, laidLooks := .later }
def ExtractPathsCardSaid : Prop := Claim7.holds Tryd.pinned (.plain (OpenSpec.ofChange extractPathsSpec)) extractPathsCard

/-- THE TIED CARD OF 'entrustlaw32.ExtractOpenings'. -/
def extractOpeningsCard : Claim7 := { stood := { row := extractOpeningsRow, standIns := [], harness := (true, "8af6b201b59b9d417e678cbfc35db89c77718503b8fb24c52cc0346cd16ae94b"), looks := false }, kinds := [], alts := [], laidByText := true, laidKinds := [.data, .data, .data, .data], laidTests := true, laidLooks := .later }
def ExtractOpeningsCardSaid : Prop := Claim7.holds Tryd.pinned (.plain (OpenSpec.ofChange extractOpeningsSpec)) extractOpeningsCard

/-- THE SECOND FORM's CARD OF 'entrustlaw32.ExtractPaths'. -/
def extractPathsUptoCard : Claim7 := { stood := { row := extractPathsUptoRow, standIns := [], harness := (true, "8af6b201b59b9d417e678cbfc35db89c77718503b8fb24c52cc0346cd16ae94b"), looks := false }, kinds := [], alts := [], laidByText := true, laidKinds := [.data, .data, .data, .data], laidTests := true, laidLooks := .later }
def ExtractPathsUptoCardSaid : Prop := Claim7.holds Tryd.pinned (.plain (OpenSpec.upto extractPathsSpec)) extractPathsUptoCard

/-- THE SECOND FORM's CARD OF 'entrustlaw32.ExtractOpenings'. -/
def extractOpeningsUptoCard : Claim7 := { stood := { row := extractOpeningsUptoRow, standIns := [], harness := (true, "8af6b201b59b9d417e678cbfc35db89c77718503b8fb24c52cc0346cd16ae94b"), looks := false }, kinds := [], alts := [], laidByText := true, laidKinds := [.data, .data, .data, .data], laidTests := true, laidLooks := .later }
def ExtractOpeningsUptoCardSaid : Prop := Claim7.holds Tryd.pinned (.plain (OpenSpec.upto extractOpeningsSpec)) extractOpeningsUptoCard
end Rows
end Go.Proofs.YtgdjcmehlhebdaaDoor
