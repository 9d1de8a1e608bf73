/-
  DERIVED. GIVEN WITH THE SEED: THE CARDS: each row of YtlneklemjfefpaaDoorRows.lean that lists a variable, with what it lists TIED to the program's text (the seventh form; the later family's looks); each row that meets fmt, with fmt's text TOLD by the authors' own Lean function (tested against real Go, not proved from fmt's source: count such statements apart). THE CARD IS WHAT COUNTS. Prove the row's statement (the work); the ties are given (YtlneklemjfefpaaDoorTie.lean); close each card by the builder's one call (the guide's Derived/Test/ToyasCard.lean, 'card_holds'). Laid BY PROGRAM, IN A SANDBOX (cutbox-door.mjs). By AI agents, Wed Nov 11 2026. No macro, syntax, notation, axiom, sorry.
-/
import Derived.Test.YtlneklemjfefpaaDoorRows
import GoSem.ClaimSeven
namespace Go.Proofs.YtlneklemjfefpaaDoor
namespace Rows

/-- THE TIED CARD OF 'entrustlaw12.StepGrows'. -/
def stepGrowsCard : Claim7 := { stood := { row := stepGrowsRow, standIns := [], harness := (true, "7ab2a731782517532b116e7a5e6fa371611c3d0d287e89f622f5b33733b37069"), looks := true }, kinds := [], alts := [], laidByText := true, laidKinds := [.data, .data, .data, .data], laidTests := true, laidLooks := .later }
def StepGrowsCardSaid : Prop := Claim7.holds Tryd.pinned (.plain (OpenSpec.ofChange stepGrowsSpec)) stepGrowsCard

/-- THE TIED CARD OF 'entrustlaw09.TreePaths'. -/
def treePathsCard : Claim7 := { stood := { row := treePathsRow, standIns := [], harness := (true, "7ab2a731782517532b116e7a5e6fa371611c3d0d287e89f622f5b33733b37069"), looks := true }, kinds := [], alts := [], laidByText := true, laidKinds := [.data, .data], laidTests := true, laidLooks := .later }
def TreePathsCardSaid : Prop := Claim7.holds Tryd.pinned (.plain (OpenSpec.ofChange treePathsSpec)) treePathsCard

/-- THE TIED CARD OF 'entrustlaw09.TreeNodes'. -/
def treeNodesCard : Claim7 := { stood := { row := treeNodesRow, standIns := [], harness := (true, "7ab2a731782517532b116e7a5e6fa371611c3d0d287e89f622f5b33733b37069"), looks := true }, kinds := [], alts := [], laidByText := true, laidKinds := [.data, .data, .data, .data], laidTests := true, laidLooks := .later }
def TreeNodesCardSaid : Prop := Claim7.holds Tryd.pinned (.plain (OpenSpec.ofChange treeNodesSpec)) treeNodesCard

/-- THE TIED CARD OF 'entrustlaw12.StepCuts'. -/
def stepCutsCard : Claim7 := { stood := { row := stepCutsRow, standIns := [], harness := (true, "7ab2a731782517532b116e7a5e6fa371611c3d0d287e89f622f5b33733b37069"), looks := true }, kinds := [], alts := [], laidByText := true, laidKinds := [.data, .data, .data, .data], laidTests := true, laidLooks := .later }
def StepCutsCardSaid : Prop := Claim7.holds Tryd.pinned (.plain (OpenSpec.ofChange stepCutsSpec)) stepCutsCard

/-- THE TIED CARD OF 'entrustlaw11.SpanIndices'. -/
def spanIndicesCard : Claim7 := { stood := { row := spanIndicesRow, standIns := [], harness := (true, "7ab2a731782517532b116e7a5e6fa371611c3d0d287e89f622f5b33733b37069"), looks := true }, kinds := [], alts := [], laidByText := true, laidKinds := [.data, .data], laidTests := true, laidLooks := .later }
def SpanIndicesCardSaid : Prop := Claim7.holds Tryd.pinned (.plain (OpenSpec.ofChange spanIndicesSpec)) spanIndicesCard

/-- THE TIED CARD OF 'entrustlaw11.SpanMakes'. -/
def spanMakesCard : Claim7 := { stood := { row := spanMakesRow, standIns := [], harness := (true, "7ab2a731782517532b116e7a5e6fa371611c3d0d287e89f622f5b33733b37069"), looks := true }, kinds := [], alts := [], laidByText := true, laidKinds := [.data, .data, .data, .data], laidTests := true, laidLooks := .later }
def SpanMakesCardSaid : Prop := Claim7.holds Tryd.pinned (.plain (OpenSpec.ofChange spanMakesSpec)) spanMakesCard

/-- THE TIED CARD OF 'entrustlaw12.StepWrites'. -/
def stepWritesCard : Claim7 := { stood := { row := stepWritesRow, standIns := [], harness := (true, "7ab2a731782517532b116e7a5e6fa371611c3d0d287e89f622f5b33733b37069"), looks := true }, kinds := [], alts := [], laidByText := true, laidKinds := [.data, .data, .data, .data], laidTests := true, laidLooks := .later }
def StepWritesCardSaid : Prop := Claim7.holds Tryd.pinned (.plain (OpenSpec.ofChange stepWritesSpec)) stepWritesCard

/-- THE TIED CARD OF 'entrustlaw10.ProofRoots'. -/
def proofRootsCard : Claim7 := { stood := { row := proofRootsRow, standIns := [], harness := (true, "7ab2a731782517532b116e7a5e6fa371611c3d0d287e89f622f5b33733b37069"), looks := true }, kinds := [], alts := [], laidByText := true, laidKinds := [.data, .data, .data, .data], laidTests := true, laidLooks := .later }
def ProofRootsCardSaid : Prop := Claim7.holds Tryd.pinned (.plain (OpenSpec.ofChange proofRootsSpec)) proofRootsCard

/-- THE TIED CARD OF 'entrustlaw10.ProofBinds'. -/
def proofBindsCard : Claim7 := { stood := { row := proofBindsRow, standIns := [], harness := (true, "7ab2a731782517532b116e7a5e6fa371611c3d0d287e89f622f5b33733b37069"), looks := true }, kinds := [], alts := [], laidByText := true, laidKinds := [.data, .data], laidTests := true, laidLooks := .later }
def ProofBindsCardSaid : Prop := Claim7.holds Tryd.pinned (.plain (OpenSpec.ofChange proofBindsSpec)) proofBindsCard

/-- THE TIED CARD OF 'entrustlaw10.ProofMakes'. -/
def proofMakesCard : Claim7 := { stood := { row := proofMakesRow, standIns := [], harness := (true, "7ab2a731782517532b116e7a5e6fa371611c3d0d287e89f622f5b33733b37069"), looks := true }, kinds := [], alts := [], laidByText := true, laidKinds := [.data, .data, .data, .data], laidTests := true, laidLooks := .later }
def ProofMakesCardSaid : Prop := Claim7.holds Tryd.pinned (.plain (OpenSpec.ofChange proofMakesSpec)) proofMakesCard

/-- THE TIED CARD OF 'entrustlaw12.StepMakes'. -/
def stepMakesCard : Claim7 := { stood := { row := stepMakesRow, standIns := [], harness := (true, "7ab2a731782517532b116e7a5e6fa371611c3d0d287e89f622f5b33733b37069"), looks := true }, kinds := [], alts := [], laidByText := true, laidKinds := [.data, .data, .data, .data], laidTests := true, laidLooks := .later }
def StepMakesCardSaid : Prop := Claim7.holds Tryd.pinned (.plain (OpenSpec.ofChange stepMakesSpec)) stepMakesCard

/-- THE TIED CARD OF 'entrustlaw11.SpanRoots'. -/
def spanRootsCard : Claim7 := { stood := { row := spanRootsRow, standIns := [], harness := (true, "7ab2a731782517532b116e7a5e6fa371611c3d0d287e89f622f5b33733b37069"), looks := true }, kinds := [], alts := [], laidByText := true, laidKinds := [.data, .data, .data, .data], laidTests := true, laidLooks := .later }
def SpanRootsCardSaid : Prop := Claim7.holds Tryd.pinned (.plain (OpenSpec.ofChange spanRootsSpec)) spanRootsCard

/-- THE TIED CARD OF 'entrustlaw11.SpanBack'. -/
def spanBackCard : Claim7 := { stood := { row := spanBackRow, standIns := [], harness := (true, "7ab2a731782517532b116e7a5e6fa371611c3d0d287e89f622f5b33733b37069"), looks := true }, kinds := [], alts := [], laidByText := true, laidKinds := [.data, .data], laidTests := true, laidLooks := .later }
def SpanBackCardSaid : Prop := Claim7.holds Tryd.pinned (.plain (OpenSpec.ofChange spanBackSpec)) spanBackCard

/-- THE TIED CARD OF 'entrustlaw09.TreePlays'. -/
def treePlaysCard : Claim7 := { stood := { row := treePlaysRow, standIns := [], harness := (true, "7ab2a731782517532b116e7a5e6fa371611c3d0d287e89f622f5b33733b37069"), looks := true }, kinds := [], alts := [], laidByText := true, laidKinds := [.data, .data, .data, .data], laidTests := true, laidLooks := .later }
def TreePlaysCardSaid : Prop := Claim7.holds Tryd.pinned (.plain (OpenSpec.ofChange treePlaysSpec)) treePlaysCard

/-- THE TIED CARD OF 'entrustlaw09.TreeSizes'. -/
def treeSizesCard : Claim7 := { stood := { row := treeSizesRow, standIns := [], harness := (true, "7ab2a731782517532b116e7a5e6fa371611c3d0d287e89f622f5b33733b37069"), looks := true }, kinds := [], alts := [], laidByText := true, laidKinds := [.data, .data, .data, .data], laidTests := true, laidLooks := .later }
def TreeSizesCardSaid : Prop := Claim7.holds Tryd.pinned (.plain (OpenSpec.ofChange treeSizesSpec)) treeSizesCard

/-- THE TIED CARD OF 'entrustlaw09.TreeNil'. -/
def treeNilCard : Claim7 := { stood := { row := treeNilRow, standIns := [], harness := (true, "7ab2a731782517532b116e7a5e6fa371611c3d0d287e89f622f5b33733b37069"), looks := true }, kinds := [], alts := [], laidByText := true, laidKinds := [.data, .data], laidTests := true, laidLooks := .later }
def TreeNilCardSaid : Prop := Claim7.holds Tryd.pinned (.plain (OpenSpec.ofChange treeNilSpec)) treeNilCard

/-- THE TIED CARD OF 'entrustlaw10.ProofBack'. -/
def proofBackCard : Claim7 := { stood := { row := proofBackRow, standIns := [], harness := (true, "7ab2a731782517532b116e7a5e6fa371611c3d0d287e89f622f5b33733b37069"), looks := true }, kinds := [], alts := [], laidByText := true, laidKinds := [.data, .data], laidTests := true, laidLooks := .later }
def ProofBackCardSaid : Prop := Claim7.holds Tryd.pinned (.plain (OpenSpec.ofChange proofBackSpec)) proofBackCard

/-- THE TIED CARD OF 'entrustlaw12.StepLeads'. -/
def stepLeadsCard : Claim7 := { stood := { row := stepLeadsRow, standIns := [], harness := (true, "7ab2a731782517532b116e7a5e6fa371611c3d0d287e89f622f5b33733b37069"), looks := true }, kinds := [], alts := [], laidByText := true, laidKinds := [.data, .data], laidTests := true, laidLooks := .later }
def StepLeadsCardSaid : Prop := Claim7.holds Tryd.pinned (.plain (OpenSpec.ofChange stepLeadsSpec)) stepLeadsCard

/-- THE SECOND FORM's CARD OF 'entrustlaw12.StepGrows'. -/
def stepGrowsUptoCard : Claim7 := { stood := { row := stepGrowsUptoRow, standIns := [], harness := (true, "7ab2a731782517532b116e7a5e6fa371611c3d0d287e89f622f5b33733b37069"), looks := true }, kinds := [], alts := [], laidByText := true, laidKinds := [.data, .data, .data, .data], laidTests := true, laidLooks := .later }
def StepGrowsUptoCardSaid : Prop := Claim7.holds Tryd.pinned (.plain (OpenSpec.upto stepGrowsSpec)) stepGrowsUptoCard

/-- THE SECOND FORM's CARD OF 'entrustlaw09.TreePaths'. -/
def treePathsUptoCard : Claim7 := { stood := { row := treePathsUptoRow, standIns := [], harness := (true, "7ab2a731782517532b116e7a5e6fa371611c3d0d287e89f622f5b33733b37069"), looks := true }, kinds := [], alts := [], laidByText := true, laidKinds := [.data, .data], laidTests := true, laidLooks := .later }
def TreePathsUptoCardSaid : Prop := Claim7.holds Tryd.pinned (.plain (OpenSpec.upto treePathsSpec)) treePathsUptoCard

/-- THE SECOND FORM's CARD OF 'entrustlaw09.TreeNodes'. -/
def treeNodesUptoCard : Claim7 := { stood := { row := treeNodesUptoRow, standIns := [], harness := (true, "7ab2a731782517532b116e7a5e6fa371611c3d0d287e89f622f5b33733b37069"), looks := true }, kinds := [], alts := [], laidByText := true, laidKinds := [.data, .data, .data, .data], laidTests := true, laidLooks := .later }
def TreeNodesUptoCardSaid : Prop := Claim7.holds Tryd.pinned (.plain (OpenSpec.upto treeNodesSpec)) treeNodesUptoCard

/-- THE SECOND FORM's CARD OF 'entrustlaw12.StepCuts'. -/
def stepCutsUptoCard : Claim7 := { stood := { row := stepCutsUptoRow, standIns := [], harness := (true, "7ab2a731782517532b116e7a5e6fa371611c3d0d287e89f622f5b33733b37069"), looks := true }, kinds := [], alts := [], laidByText := true, laidKinds := [.data, .data, .data, .data], laidTests := true, laidLooks := .later }
def StepCutsUptoCardSaid : Prop := Claim7.holds Tryd.pinned (.plain (OpenSpec.upto stepCutsSpec)) stepCutsUptoCard

/-- THE SECOND FORM's CARD OF 'entrustlaw11.SpanIndices'. -/
def spanIndicesUptoCard : Claim7 := { stood := { row := spanIndicesUptoRow, standIns := [], harness := (true, "7ab2a731782517532b116e7a5e6fa371611c3d0d287e89f622f5b33733b37069"), looks := true }, kinds := [], alts := [], laidByText := true, laidKinds := [.data, .data], laidTests := true, laidLooks := .later }
def SpanIndicesUptoCardSaid : Prop := Claim7.holds Tryd.pinned (.plain (OpenSpec.upto spanIndicesSpec)) spanIndicesUptoCard

/-- THE SECOND FORM's CARD OF 'entrustlaw11.SpanMakes'. -/
def spanMakesUptoCard : Claim7 := { stood := { row := spanMakesUptoRow, standIns := [], harness := (true, "7ab2a731782517532b116e7a5e6fa371611c3d0d287e89f622f5b33733b37069"), looks := true }, kinds := [], alts := [], laidByText := true, laidKinds := [.data, .data, .data, .data], laidTests := true, laidLooks := .later }
def SpanMakesUptoCardSaid : Prop := Claim7.holds Tryd.pinned (.plain (OpenSpec.upto spanMakesSpec)) spanMakesUptoCard

/-- THE SECOND FORM's CARD OF 'entrustlaw12.StepWrites'. -/
def stepWritesUptoCard : Claim7 := { stood := { row := stepWritesUptoRow, standIns := [], harness := (true, "7ab2a731782517532b116e7a5e6fa371611c3d0d287e89f622f5b33733b37069"), looks := true }, kinds := [], alts := [], laidByText := true, laidKinds := [.data, .data, .data, .data], laidTests := true, laidLooks := .later }
def StepWritesUptoCardSaid : Prop := Claim7.holds Tryd.pinned (.plain (OpenSpec.upto stepWritesSpec)) stepWritesUptoCard

/-- THE SECOND FORM's CARD OF 'entrustlaw10.ProofRoots'. -/
def proofRootsUptoCard : Claim7 := { stood := { row := proofRootsUptoRow, standIns := [], harness := (true, "7ab2a731782517532b116e7a5e6fa371611c3d0d287e89f622f5b33733b37069"), looks := true }, kinds := [], alts := [], laidByText := true, laidKinds := [.data, .data, .data, .data], laidTests := true, laidLooks := .later }
def ProofRootsUptoCardSaid : Prop := Claim7.holds Tryd.pinned (.plain (OpenSpec.upto proofRootsSpec)) proofRootsUptoCard

/-- THE SECOND FORM's CARD OF 'entrustlaw10.ProofBinds'. -/
def proofBindsUptoCard : Claim7 := { stood := { row := proofBindsUptoRow, standIns := [], harness := (true, "7ab2a731782517532b116e7a5e6fa371611c3d0d287e89f622f5b33733b37069"), looks := true }, kinds := [], alts := [], laidByText := true, laidKinds := [.data, .data], laidTests := true, laidLooks := .later }
def ProofBindsUptoCardSaid : Prop := Claim7.holds Tryd.pinned (.plain (OpenSpec.upto proofBindsSpec)) proofBindsUptoCard

/-- THE SECOND FORM's CARD OF 'entrustlaw10.ProofMakes'. -/
def proofMakesUptoCard : Claim7 := { stood := { row := proofMakesUptoRow, standIns := [], harness := (true, "7ab2a731782517532b116e7a5e6fa371611c3d0d287e89f622f5b33733b37069"), looks := true }, kinds := [], alts := [], laidByText := true, laidKinds := [.data, .data, .data, .data], laidTests := true, laidLooks := .later }
def ProofMakesUptoCardSaid : Prop := Claim7.holds Tryd.pinned (.plain (OpenSpec.upto proofMakesSpec)) proofMakesUptoCard

/-- THE SECOND FORM's CARD OF 'entrustlaw12.StepMakes'. -/
def stepMakesUptoCard : Claim7 := { stood := { row := stepMakesUptoRow, standIns := [], harness := (true, "7ab2a731782517532b116e7a5e6fa371611c3d0d287e89f622f5b33733b37069"), looks := true }, kinds := [], alts := [], laidByText := true, laidKinds := [.data, .data, .data, .data], laidTests := true, laidLooks := .later }
def StepMakesUptoCardSaid : Prop := Claim7.holds Tryd.pinned (.plain (OpenSpec.upto stepMakesSpec)) stepMakesUptoCard

/-- THE SECOND FORM's CARD OF 'entrustlaw11.SpanRoots'. -/
def spanRootsUptoCard : Claim7 := { stood := { row := spanRootsUptoRow, standIns := [], harness := (true, "7ab2a731782517532b116e7a5e6fa371611c3d0d287e89f622f5b33733b37069"), looks := true }, kinds := [], alts := [], laidByText := true, laidKinds := [.data, .data, .data, .data], laidTests := true, laidLooks := .later }
def SpanRootsUptoCardSaid : Prop := Claim7.holds Tryd.pinned (.plain (OpenSpec.upto spanRootsSpec)) spanRootsUptoCard

/-- THE SECOND FORM's CARD OF 'entrustlaw11.SpanBack'. -/
def spanBackUptoCard : Claim7 := { stood := { row := spanBackUptoRow, standIns := [], harness := (true, "7ab2a731782517532b116e7a5e6fa371611c3d0d287e89f622f5b33733b37069"), looks := true }, kinds := [], alts := [], laidByText := true, laidKinds := [.data, .data], laidTests := true, laidLooks := .later }
def SpanBackUptoCardSaid : Prop := Claim7.holds Tryd.pinned (.plain (OpenSpec.upto spanBackSpec)) spanBackUptoCard

/-- THE SECOND FORM's CARD OF 'entrustlaw09.TreePlays'. -/
def treePlaysUptoCard : Claim7 := { stood := { row := treePlaysUptoRow, standIns := [], harness := (true, "7ab2a731782517532b116e7a5e6fa371611c3d0d287e89f622f5b33733b37069"), looks := true }, kinds := [], alts := [], laidByText := true, laidKinds := [.data, .data, .data, .data], laidTests := true, laidLooks := .later }
def TreePlaysUptoCardSaid : Prop := Claim7.holds Tryd.pinned (.plain (OpenSpec.upto treePlaysSpec)) treePlaysUptoCard

/-- THE SECOND FORM's CARD OF 'entrustlaw09.TreeSizes'. -/
def treeSizesUptoCard : Claim7 := { stood := { row := treeSizesUptoRow, standIns := [], harness := (true, "7ab2a731782517532b116e7a5e6fa371611c3d0d287e89f622f5b33733b37069"), looks := true }, kinds := [], alts := [], laidByText := true, laidKinds := [.data, .data, .data, .data], laidTests := true, laidLooks := .later }
def TreeSizesUptoCardSaid : Prop := Claim7.holds Tryd.pinned (.plain (OpenSpec.upto treeSizesSpec)) treeSizesUptoCard

/-- THE SECOND FORM's CARD OF 'entrustlaw09.TreeNil'. -/
def treeNilUptoCard : Claim7 := { stood := { row := treeNilUptoRow, standIns := [], harness := (true, "7ab2a731782517532b116e7a5e6fa371611c3d0d287e89f622f5b33733b37069"), looks := true }, kinds := [], alts := [], laidByText := true, laidKinds := [.data, .data], laidTests := true, laidLooks := .later }
def TreeNilUptoCardSaid : Prop := Claim7.holds Tryd.pinned (.plain (OpenSpec.upto treeNilSpec)) treeNilUptoCard

/-- THE SECOND FORM's CARD OF 'entrustlaw10.ProofBack'. -/
def proofBackUptoCard : Claim7 := { stood := { row := proofBackUptoRow, standIns := [], harness := (true, "7ab2a731782517532b116e7a5e6fa371611c3d0d287e89f622f5b33733b37069"), looks := true }, kinds := [], alts := [], laidByText := true, laidKinds := [.data, .data], laidTests := true, laidLooks := .later }
def ProofBackUptoCardSaid : Prop := Claim7.holds Tryd.pinned (.plain (OpenSpec.upto proofBackSpec)) proofBackUptoCard

/-- THE SECOND FORM's CARD OF 'entrustlaw12.StepLeads'. -/
def stepLeadsUptoCard : Claim7 := { stood := { row := stepLeadsUptoRow, standIns := [], harness := (true, "7ab2a731782517532b116e7a5e6fa371611c3d0d287e89f622f5b33733b37069"), looks := true }, kinds := [], alts := [], laidByText := true, laidKinds := [.data, .data], laidTests := true, laidLooks := .later }
def StepLeadsUptoCardSaid : Prop := Claim7.holds Tryd.pinned (.plain (OpenSpec.upto stepLeadsSpec)) stepLeadsUptoCard
end Rows
end Go.Proofs.YtlneklemjfefpaaDoor
