/-
  DERIVED. GIVEN WITH THE SEED: THE CARDS: each row of YtefjibjojkjiiaaGreatDoorRows.lean that lists a variable, with what it lists TIED to the program's text (the seventh form; the later family's looks); each row that meets fmt, with fmt's text TOLD by the authors' own Lean function (tested against real Go, not proved from fmt's source: count such statements apart). THE CARD IS WHAT COUNTS. Prove the row's statement (the work); the ties are given (YtefjibjojkjiiaaGreatDoorTie.lean); close each card by the builder's one call (the guide's Derived/Test/ToyasCard.lean, 'card_holds'). Laid BY PROGRAM, IN A SANDBOX (cutbox-door.mjs). By AI agents, Wed Nov 11 2026. No macro, syntax, notation, axiom, sorry.
-/
import Derived.Test.YtefjibjojkjiiaaGreatDoorRows
import GoSem.ClaimSeven
namespace Go.Proofs.YtefjibjojkjiiaaGreatDoor
namespace Rows

/-- THE TIED CARD OF 'cloaklaw01.BaseJournal'. -/
def baseJournalCard : Claim7 := { stood := { row := baseJournalRow, standIns := [], harness := (true, "60cde8cee3f7a806d360e3436d437f46b40cb47cc77b60cba76e20acf159c571"), looks := true }, kinds := [], alts := [], laidByText := true, laidKinds := [.data, .data, .data, .sentinel, .sentinel], laidTests := true, laidLooks := .later }
def BaseJournalCardSaid : Prop := Claim7.holds Tryz.pinned (.plain (OpenSpec.ofChange baseJournalSpec)) baseJournalCard

/-- THE SECOND FORM's CARD OF 'cloaklaw01.BaseJournal'. -/
def baseJournalUptoCard : Claim7 := { stood := { row := baseJournalUptoRow, standIns := [], harness := (true, "60cde8cee3f7a806d360e3436d437f46b40cb47cc77b60cba76e20acf159c571"), looks := true }, kinds := [], alts := [], laidByText := true, laidKinds := [.data, .data, .data, .sentinel, .sentinel], laidTests := true, laidLooks := .later }
def BaseJournalUptoCardSaid : Prop := Claim7.holds Tryz.pinned (.plain (OpenSpec.upto baseJournalSpec)) baseJournalUptoCard
end Rows
end Go.Proofs.YtefjibjojkjiiaaGreatDoor
