/-
  DERIVED. GIVEN WITH THE SEED: THE CARDS: each row of YtbfkhodfjecndaaGreatDoorRows.lean that lists a variable, with what it lists TIED to the program's text (the seventh form; the later family's looks); each row that meets fmt, with fmt's text TOLD by the authors' own Lean function (tested against real Go, not proved from fmt's source: count such statements apart). THE CARD IS WHAT COUNTS. Prove the row's statement (the work); the ties are given (YtbfkhodfjecndaaGreatDoorTie.lean); close each card by the builder's one call (the guide's Derived/Test/ToyasCard.lean, 'card_holds'). Laid BY PROGRAM, IN A SANDBOX (cutbox-door.mjs). By AI agents, Wed Nov 11 2026. No macro, syntax, notation, axiom, sorry.
-/
import Derived.Test.YtbfkhodfjecndaaGreatDoorRows
import GoSem.ClaimSeven
namespace Go.Proofs.YtbfkhodfjecndaaGreatDoor
namespace Rows

/-- THE TIED CARD OF 'cloaklaw07.PurseForms'. -/
def purseFormsCard : Claim7 := { stood := { row := purseFormsRow, standIns := [], harness := (true, "80a8bc192a3c1c706d59b0885c6c27adb129f95171f639269849eb75c34a0141"), looks := true }, kinds := [], alts := [], laidByText := true, laidKinds := [.data, .data, .data, .sentinel, .sentinel], laidTests := true, laidLooks := .later }
def PurseFormsCardSaid : Prop := Claim7.holds Tryz.pinned (.plain (OpenSpec.ofChange purseFormsSpec)) purseFormsCard

/-- THE TIED CARD OF 'cloaklaw07.PurseSaves'. -/
def purseSavesCard : Claim7 := { stood := { row := purseSavesRow, standIns := [], harness := (true, "80a8bc192a3c1c706d59b0885c6c27adb129f95171f639269849eb75c34a0141"), looks := true }, kinds := [], alts := [], laidByText := true, laidKinds := [.data, .data, .data, .sentinel, .sentinel], laidTests := true, laidLooks := .later }
def PurseSavesCardSaid : Prop := Claim7.holds Tryz.pinned (.plain (OpenSpec.ofChange purseSavesSpec)) purseSavesCard

/-- THE SECOND FORM's CARD OF 'cloaklaw07.PurseForms'. -/
def purseFormsUptoCard : Claim7 := { stood := { row := purseFormsUptoRow, standIns := [], harness := (true, "80a8bc192a3c1c706d59b0885c6c27adb129f95171f639269849eb75c34a0141"), looks := true }, kinds := [], alts := [], laidByText := true, laidKinds := [.data, .data, .data, .sentinel, .sentinel], laidTests := true, laidLooks := .later }
def PurseFormsUptoCardSaid : Prop := Claim7.holds Tryz.pinned (.plain (OpenSpec.upto purseFormsSpec)) purseFormsUptoCard

/-- THE SECOND FORM's CARD OF 'cloaklaw07.PurseSaves'. -/
def purseSavesUptoCard : Claim7 := { stood := { row := purseSavesUptoRow, standIns := [], harness := (true, "80a8bc192a3c1c706d59b0885c6c27adb129f95171f639269849eb75c34a0141"), looks := true }, kinds := [], alts := [], laidByText := true, laidKinds := [.data, .data, .data, .sentinel, .sentinel], laidTests := true, laidLooks := .later }
def PurseSavesUptoCardSaid : Prop := Claim7.holds Tryz.pinned (.plain (OpenSpec.upto purseSavesSpec)) purseSavesUptoCard
end Rows
end Go.Proofs.YtbfkhodfjecndaaGreatDoor
