/-
  DERIVED. GIVEN WITH THE SEED: THE CARDS: each row of YtlmhhgemiknhdaaGreatDoorRows.lean that lists a variable, with what it lists TIED to the program's text (the seventh form; the later family's looks); each row that meets fmt, with fmt's text TOLD by the authors' own Lean function (tested against real Go, not proved from fmt's source: count such statements apart). THE CARD IS WHAT COUNTS. Prove the row's statement (the work); the ties are given (YtlmhhgemiknhdaaGreatDoorTie.lean); close each card by the builder's one call (the guide's Derived/Test/ToyasCard.lean, 'card_holds'). Laid BY PROGRAM, IN A SANDBOX (cutbox-door.mjs). By AI agents, Wed Nov 11 2026. No macro, syntax, notation, axiom, sorry.
-/
import Derived.Test.YtlmhhgemiknhdaaGreatDoorRows
import GoSem.ClaimSeven
namespace Go.Proofs.YtlmhhgemiknhdaaGreatDoor
namespace Rows

/-- THE TIED CARD OF 'cloaklaw03.ProofTells'. -/
def proofTellsCard : Claim7 := { stood := { row := proofTellsRow, standIns := [], harness := (true, "248e906c93e2f86de38b7904bff48e15bca6dd7a21be32473b03a9e01cba26f3"), looks := true }, kinds := [], alts := [], laidByText := true, laidKinds := [.data, .data, .data], laidTests := true, laidLooks := .later }
def ProofTellsCardSaid : Prop := Claim7.holds Tryz.pinned (.plain (OpenSpec.ofChange proofTellsSpec)) proofTellsCard

/-- THE TIED CARD OF 'cloaklaw03.ProofComplete'. -/
def proofCompleteCard : Claim7 := { stood := { row := proofCompleteRow, standIns := [], harness := (true, "248e906c93e2f86de38b7904bff48e15bca6dd7a21be32473b03a9e01cba26f3"), looks := true }, kinds := [], alts := [], laidByText := true, laidKinds := [.data, .data, .data], laidTests := true, laidLooks := .later }
def ProofCompleteCardSaid : Prop := Claim7.holds Tryz.pinned (.plain (OpenSpec.ofChange proofCompleteSpec)) proofCompleteCard

/-- THE TIED CARD OF 'cloaklaw03.ProofWitness'. -/
def proofWitnessCard : Claim7 := { stood := { row := proofWitnessRow, standIns := [], harness := (true, "248e906c93e2f86de38b7904bff48e15bca6dd7a21be32473b03a9e01cba26f3"), looks := true }, kinds := [], alts := [], laidByText := true, laidKinds := [.data, .data, .data], laidTests := true, laidLooks := .later }
def ProofWitnessCardSaid : Prop := Claim7.holds Tryz.pinned (.plain (OpenSpec.ofChange proofWitnessSpec)) proofWitnessCard

/-- THE TIED CARD OF 'cloaklaw03.ProofEqual'. -/
def proofEqualCard : Claim7 := { stood := { row := proofEqualRow, standIns := [], harness := (true, "248e906c93e2f86de38b7904bff48e15bca6dd7a21be32473b03a9e01cba26f3"), looks := true }, kinds := [], alts := [], laidByText := true, laidKinds := [.data, .data, .data], laidTests := true, laidLooks := .later }
def ProofEqualCardSaid : Prop := Claim7.holds Tryz.pinned (.plain (OpenSpec.ofChange proofEqualSpec)) proofEqualCard

/-- THE TIED CARD OF 'cloaklaw03.ProofShape'. -/
def proofShapeCard : Claim7 := { stood := { row := proofShapeRow, standIns := [], harness := (true, "248e906c93e2f86de38b7904bff48e15bca6dd7a21be32473b03a9e01cba26f3"), looks := true }, kinds := [], alts := [], laidByText := true, laidKinds := [.data, .data, .data], laidTests := true, laidLooks := .later }
def ProofShapeCardSaid : Prop := Claim7.holds Tryz.pinned (.plain (OpenSpec.ofChange proofShapeSpec)) proofShapeCard

/-- THE TIED CARD OF 'cloaklaw03.ProofOpens'. -/
def proofOpensCard : Claim7 := { stood := { row := proofOpensRow, standIns := [], harness := (true, "248e906c93e2f86de38b7904bff48e15bca6dd7a21be32473b03a9e01cba26f3"), looks := true }, kinds := [], alts := [], laidByText := true, laidKinds := [.data, .data, .data, .sentinel, .sentinel], laidTests := true, laidLooks := .later }
def ProofOpensCardSaid : Prop := Claim7.holds Tryz.pinned (.plain (OpenSpec.ofChange proofOpensSpec)) proofOpensCard

/-- THE TIED CARD OF 'cloaklaw03.ProofSigns'. -/
def proofSignsCard : Claim7 := { stood := { row := proofSignsRow, standIns := [], harness := (true, "248e906c93e2f86de38b7904bff48e15bca6dd7a21be32473b03a9e01cba26f3"), looks := true }, kinds := [], alts := [], laidByText := true, laidKinds := [.data, .data, .data, .sentinel, .sentinel], laidTests := true, laidLooks := .later }
def ProofSignsCardSaid : Prop := Claim7.holds Tryz.pinned (.plain (OpenSpec.ofChange proofSignsSpec)) proofSignsCard

/-- THE TIED CARD OF 'cloaklaw03.ProofEncodes'. -/
def proofEncodesCard : Claim7 := { stood := { row := proofEncodesRow, standIns := [], harness := (true, "248e906c93e2f86de38b7904bff48e15bca6dd7a21be32473b03a9e01cba26f3"), looks := true }, kinds := [], alts := [], laidByText := true, laidKinds := [.data, .data, .data, .sentinel, .sentinel], laidTests := true, laidLooks := .later }
def ProofEncodesCardSaid : Prop := Claim7.holds Tryz.pinned (.plain (OpenSpec.ofChange proofEncodesSpec)) proofEncodesCard

/-- THE TIED CARD OF 'cloaklaw03.ProofTools'. -/
def proofToolsCard : Claim7 := { stood := { row := proofToolsRow, standIns := [], harness := (true, "248e906c93e2f86de38b7904bff48e15bca6dd7a21be32473b03a9e01cba26f3"), looks := true }, kinds := [], alts := [], laidByText := true, laidKinds := [.data, .data, .data, .sentinel, .sentinel], laidTests := true, laidLooks := .later }
def ProofToolsCardSaid : Prop := Claim7.holds Tryz.pinned (.plain (OpenSpec.ofChange proofToolsSpec)) proofToolsCard

/-- THE TIED CARD OF 'cloaklaw03.ProofCounts'. -/
def proofCountsCard : Claim7 := { stood := { row := proofCountsRow, standIns := [], harness := (true, "248e906c93e2f86de38b7904bff48e15bca6dd7a21be32473b03a9e01cba26f3"), looks := true }, kinds := [], alts := [], laidByText := true, laidKinds := [.data, .data, .data, .sentinel, .sentinel], laidTests := true, laidLooks := .later }
def ProofCountsCardSaid : Prop := Claim7.holds Tryz.pinned (.plain (OpenSpec.ofChange proofCountsSpec)) proofCountsCard

/-- THE TIED CARD OF 'cloaklaw03.ProofRanges'. -/
def proofRangesCard : Claim7 := { stood := { row := proofRangesRow, standIns := [], harness := (true, "248e906c93e2f86de38b7904bff48e15bca6dd7a21be32473b03a9e01cba26f3"), looks := true }, kinds := [], alts := [], laidByText := true, laidKinds := [.data, .data, .data, .sentinel, .sentinel], laidTests := true, laidLooks := .later }
def ProofRangesCardSaid : Prop := Claim7.holds Tryz.pinned (.plain (OpenSpec.ofChange proofRangesSpec)) proofRangesCard

/-- THE SECOND FORM's CARD OF 'cloaklaw03.ProofTells'. -/
def proofTellsUptoCard : Claim7 := { stood := { row := proofTellsUptoRow, standIns := [], harness := (true, "248e906c93e2f86de38b7904bff48e15bca6dd7a21be32473b03a9e01cba26f3"), looks := true }, kinds := [], alts := [], laidByText := true, laidKinds := [.data, .data, .data], laidTests := true, laidLooks := .later }
def ProofTellsUptoCardSaid : Prop := Claim7.holds Tryz.pinned (.plain (OpenSpec.upto proofTellsSpec)) proofTellsUptoCard

/-- THE SECOND FORM's CARD OF 'cloaklaw03.ProofComplete'. -/
def proofCompleteUptoCard : Claim7 := { stood := { row := proofCompleteUptoRow, standIns := [], harness := (true, "248e906c93e2f86de38b7904bff48e15bca6dd7a21be32473b03a9e01cba26f3"), looks := true }, kinds := [], alts := [], laidByText := true, laidKinds := [.data, .data, .data], laidTests := true, laidLooks := .later }
def ProofCompleteUptoCardSaid : Prop := Claim7.holds Tryz.pinned (.plain (OpenSpec.upto proofCompleteSpec)) proofCompleteUptoCard

/-- THE SECOND FORM's CARD OF 'cloaklaw03.ProofWitness'. -/
def proofWitnessUptoCard : Claim7 := { stood := { row := proofWitnessUptoRow, standIns := [], harness := (true, "248e906c93e2f86de38b7904bff48e15bca6dd7a21be32473b03a9e01cba26f3"), looks := true }, kinds := [], alts := [], laidByText := true, laidKinds := [.data, .data, .data], laidTests := true, laidLooks := .later }
def ProofWitnessUptoCardSaid : Prop := Claim7.holds Tryz.pinned (.plain (OpenSpec.upto proofWitnessSpec)) proofWitnessUptoCard

/-- THE SECOND FORM's CARD OF 'cloaklaw03.ProofEqual'. -/
def proofEqualUptoCard : Claim7 := { stood := { row := proofEqualUptoRow, standIns := [], harness := (true, "248e906c93e2f86de38b7904bff48e15bca6dd7a21be32473b03a9e01cba26f3"), looks := true }, kinds := [], alts := [], laidByText := true, laidKinds := [.data, .data, .data], laidTests := true, laidLooks := .later }
def ProofEqualUptoCardSaid : Prop := Claim7.holds Tryz.pinned (.plain (OpenSpec.upto proofEqualSpec)) proofEqualUptoCard

/-- THE SECOND FORM's CARD OF 'cloaklaw03.ProofShape'. -/
def proofShapeUptoCard : Claim7 := { stood := { row := proofShapeUptoRow, standIns := [], harness := (true, "248e906c93e2f86de38b7904bff48e15bca6dd7a21be32473b03a9e01cba26f3"), looks := true }, kinds := [], alts := [], laidByText := true, laidKinds := [.data, .data, .data], laidTests := true, laidLooks := .later }
def ProofShapeUptoCardSaid : Prop := Claim7.holds Tryz.pinned (.plain (OpenSpec.upto proofShapeSpec)) proofShapeUptoCard

/-- THE SECOND FORM's CARD OF 'cloaklaw03.ProofOpens'. -/
def proofOpensUptoCard : Claim7 := { stood := { row := proofOpensUptoRow, standIns := [], harness := (true, "248e906c93e2f86de38b7904bff48e15bca6dd7a21be32473b03a9e01cba26f3"), looks := true }, kinds := [], alts := [], laidByText := true, laidKinds := [.data, .data, .data, .sentinel, .sentinel], laidTests := true, laidLooks := .later }
def ProofOpensUptoCardSaid : Prop := Claim7.holds Tryz.pinned (.plain (OpenSpec.upto proofOpensSpec)) proofOpensUptoCard

/-- THE SECOND FORM's CARD OF 'cloaklaw03.ProofSigns'. -/
def proofSignsUptoCard : Claim7 := { stood := { row := proofSignsUptoRow, standIns := [], harness := (true, "248e906c93e2f86de38b7904bff48e15bca6dd7a21be32473b03a9e01cba26f3"), looks := true }, kinds := [], alts := [], laidByText := true, laidKinds := [.data, .data, .data, .sentinel, .sentinel], laidTests := true, laidLooks := .later }
def ProofSignsUptoCardSaid : Prop := Claim7.holds Tryz.pinned (.plain (OpenSpec.upto proofSignsSpec)) proofSignsUptoCard

/-- THE SECOND FORM's CARD OF 'cloaklaw03.ProofEncodes'. -/
def proofEncodesUptoCard : Claim7 := { stood := { row := proofEncodesUptoRow, standIns := [], harness := (true, "248e906c93e2f86de38b7904bff48e15bca6dd7a21be32473b03a9e01cba26f3"), looks := true }, kinds := [], alts := [], laidByText := true, laidKinds := [.data, .data, .data, .sentinel, .sentinel], laidTests := true, laidLooks := .later }
def ProofEncodesUptoCardSaid : Prop := Claim7.holds Tryz.pinned (.plain (OpenSpec.upto proofEncodesSpec)) proofEncodesUptoCard

/-- THE SECOND FORM's CARD OF 'cloaklaw03.ProofTools'. -/
def proofToolsUptoCard : Claim7 := { stood := { row := proofToolsUptoRow, standIns := [], harness := (true, "248e906c93e2f86de38b7904bff48e15bca6dd7a21be32473b03a9e01cba26f3"), looks := true }, kinds := [], alts := [], laidByText := true, laidKinds := [.data, .data, .data, .sentinel, .sentinel], laidTests := true, laidLooks := .later }
def ProofToolsUptoCardSaid : Prop := Claim7.holds Tryz.pinned (.plain (OpenSpec.upto proofToolsSpec)) proofToolsUptoCard

/-- THE SECOND FORM's CARD OF 'cloaklaw03.ProofCounts'. -/
def proofCountsUptoCard : Claim7 := { stood := { row := proofCountsUptoRow, standIns := [], harness := (true, "248e906c93e2f86de38b7904bff48e15bca6dd7a21be32473b03a9e01cba26f3"), looks := true }, kinds := [], alts := [], laidByText := true, laidKinds := [.data, .data, .data, .sentinel, .sentinel], laidTests := true, laidLooks := .later }
def ProofCountsUptoCardSaid : Prop := Claim7.holds Tryz.pinned (.plain (OpenSpec.upto proofCountsSpec)) proofCountsUptoCard

/-- THE SECOND FORM's CARD OF 'cloaklaw03.ProofRanges'. -/
def proofRangesUptoCard : Claim7 := { stood := { row := proofRangesUptoRow, standIns := [], harness := (true, "248e906c93e2f86de38b7904bff48e15bca6dd7a21be32473b03a9e01cba26f3"), looks := true }, kinds := [], alts := [], laidByText := true, laidKinds := [.data, .data, .data, .sentinel, .sentinel], laidTests := true, laidLooks := .later }
def ProofRangesUptoCardSaid : Prop := Claim7.holds Tryz.pinned (.plain (OpenSpec.upto proofRangesSpec)) proofRangesUptoCard
end Rows
end Go.Proofs.YtlmhhgemiknhdaaGreatDoor
