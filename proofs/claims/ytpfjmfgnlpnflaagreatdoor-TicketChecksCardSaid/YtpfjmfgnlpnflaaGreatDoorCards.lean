/-
  DERIVED. GIVEN WITH THE SEED: THE CARDS: each row of YtpfjmfgnlpnflaaGreatDoorRows.lean that lists a variable, with what it lists TIED to the program's text (the seventh form; the later family's looks); each row that meets fmt, with fmt's text TOLD by the authors' own Lean function (tested against real Go, not proved from fmt's source: count such statements apart). THE CARD IS WHAT COUNTS. Prove the row's statement (the work); the ties are given (YtpfjmfgnlpnflaaGreatDoorTie.lean); close each card by the builder's one call (the guide's Derived/Test/ToyasCard.lean, 'card_holds'). Laid BY PROGRAM, IN A SANDBOX (cutbox-door.mjs). By AI agents, Wed Nov 11 2026. No macro, syntax, notation, axiom, sorry.
-/
import Derived.Test.YtpfjmfgnlpnflaaGreatDoorRows
import GoSem.ClaimSeven
namespace Go.Proofs.YtpfjmfgnlpnflaaGreatDoor
namespace Rows

/-- THE TIED CARD OF 'cloaktop.TopMatchings'. -/
def topMatchingsCard : Claim7 := { stood := { row := topMatchingsRow, standIns := [], harness := (true, "e52efc7986eb6363d55402c71c9d6d5781edf23e4f9d67f7cdc29b83d901a237"), looks := true }, kinds := [], alts := [], laidByText := true, laidKinds := [.data, .data, .data], laidTests := true, laidLooks := .later }
def TopMatchingsCardSaid : Prop := Claim7.holds Tryz.pinned (.plain (OpenSpec.ofChange topMatchingsSpec)) topMatchingsCard

/-- THE TIED CARD OF 'cloaklaw04.TicketSound'. -/
def ticketSoundCard : Claim7 := { stood := { row := ticketSoundRow, standIns := [], harness := (true, "e52efc7986eb6363d55402c71c9d6d5781edf23e4f9d67f7cdc29b83d901a237"), looks := true }, kinds := [], alts := [], laidByText := true, laidKinds := [.data, .data, .data], laidTests := true, laidLooks := .later }
def TicketSoundCardSaid : Prop := Claim7.holds Tryz.pinned (.plain (OpenSpec.ofChange ticketSoundSpec)) ticketSoundCard

/-- THE TIED CARD OF 'cloaklaw04.TicketExposes'. -/
def ticketExposesCard : Claim7 := { stood := { row := ticketExposesRow, standIns := [], harness := (true, "e52efc7986eb6363d55402c71c9d6d5781edf23e4f9d67f7cdc29b83d901a237"), looks := true }, kinds := [], alts := [], laidByText := true, laidKinds := [.data, .data, .data], laidTests := true, laidLooks := .later }
def TicketExposesCardSaid : Prop := Claim7.holds Tryz.pinned (.plain (OpenSpec.ofChange ticketExposesSpec)) ticketExposesCard

/-- THE TIED CARD OF 'cloaklaw04.TicketHonest'. -/
def ticketHonestCard : Claim7 := { stood := { row := ticketHonestRow, standIns := [], harness := (true, "e52efc7986eb6363d55402c71c9d6d5781edf23e4f9d67f7cdc29b83d901a237"), looks := true }, kinds := [], alts := [], laidByText := true, laidKinds := [.data, .data, .data], laidTests := true, laidLooks := .later }
def TicketHonestCardSaid : Prop := Claim7.holds Tryz.pinned (.plain (OpenSpec.ofChange ticketHonestSpec)) ticketHonestCard

/-- THE TIED CARD OF 'cloaklaw04.TicketLends'. -/
def ticketLendsCard : Claim7 := { stood := { row := ticketLendsRow, standIns := [], harness := (true, "e52efc7986eb6363d55402c71c9d6d5781edf23e4f9d67f7cdc29b83d901a237"), looks := true }, kinds := [], alts := [], laidByText := true, laidKinds := [.data, .data, .data], laidTests := true, laidLooks := .later }
def TicketLendsCardSaid : Prop := Claim7.holds Tryz.pinned (.plain (OpenSpec.ofChange ticketLendsSpec)) ticketLendsCard

/-- THE TIED CARD OF 'cloaklaw04.TicketBlind'. -/
def ticketBlindCard : Claim7 := { stood := { row := ticketBlindRow, standIns := [], harness := (true, "e52efc7986eb6363d55402c71c9d6d5781edf23e4f9d67f7cdc29b83d901a237"), looks := true }, kinds := [], alts := [], laidByText := true, laidKinds := [.data, .data, .data], laidTests := true, laidLooks := .later }
def TicketBlindCardSaid : Prop := Claim7.holds Tryz.pinned (.plain (OpenSpec.ofChange ticketBlindSpec)) ticketBlindCard

/-- THE TIED CARD OF 'cloaklaw04.TicketFollows'. -/
def ticketFollowsCard : Claim7 := { stood := { row := ticketFollowsRow, standIns := [], harness := (true, "e52efc7986eb6363d55402c71c9d6d5781edf23e4f9d67f7cdc29b83d901a237"), looks := true }, kinds := [], alts := [], laidByText := true, laidKinds := [.data, .data, .data], laidTests := true, laidLooks := .later }
def TicketFollowsCardSaid : Prop := Claim7.holds Tryz.pinned (.plain (OpenSpec.ofChange ticketFollowsSpec)) ticketFollowsCard

/-- THE TIED CARD OF 'cloaklaw04.TicketChecks'. -/
def ticketChecksCard : Claim7 := { stood := { row := ticketChecksRow, standIns := [], harness := (true, "e52efc7986eb6363d55402c71c9d6d5781edf23e4f9d67f7cdc29b83d901a237"), looks := true }, kinds := [], alts := [], laidByText := true, laidKinds := [.data, .data, .data, .sentinel, .sentinel], laidTests := true, laidLooks := .later }
def TicketChecksCardSaid : Prop := Claim7.holds Tryz.pinned (.plain (OpenSpec.ofChange ticketChecksSpec)) ticketChecksCard

/-- THE SECOND FORM's CARD OF 'cloaktop.TopMatchings'. -/
def topMatchingsUptoCard : Claim7 := { stood := { row := topMatchingsUptoRow, standIns := [], harness := (true, "e52efc7986eb6363d55402c71c9d6d5781edf23e4f9d67f7cdc29b83d901a237"), looks := true }, kinds := [], alts := [], laidByText := true, laidKinds := [.data, .data, .data], laidTests := true, laidLooks := .later }
def TopMatchingsUptoCardSaid : Prop := Claim7.holds Tryz.pinned (.plain (OpenSpec.upto topMatchingsSpec)) topMatchingsUptoCard

/-- THE SECOND FORM's CARD OF 'cloaklaw04.TicketSound'. -/
def ticketSoundUptoCard : Claim7 := { stood := { row := ticketSoundUptoRow, standIns := [], harness := (true, "e52efc7986eb6363d55402c71c9d6d5781edf23e4f9d67f7cdc29b83d901a237"), looks := true }, kinds := [], alts := [], laidByText := true, laidKinds := [.data, .data, .data], laidTests := true, laidLooks := .later }
def TicketSoundUptoCardSaid : Prop := Claim7.holds Tryz.pinned (.plain (OpenSpec.upto ticketSoundSpec)) ticketSoundUptoCard

/-- THE SECOND FORM's CARD OF 'cloaklaw04.TicketExposes'. -/
def ticketExposesUptoCard : Claim7 := { stood := { row := ticketExposesUptoRow, standIns := [], harness := (true, "e52efc7986eb6363d55402c71c9d6d5781edf23e4f9d67f7cdc29b83d901a237"), looks := true }, kinds := [], alts := [], laidByText := true, laidKinds := [.data, .data, .data], laidTests := true, laidLooks := .later }
def TicketExposesUptoCardSaid : Prop := Claim7.holds Tryz.pinned (.plain (OpenSpec.upto ticketExposesSpec)) ticketExposesUptoCard

/-- THE SECOND FORM's CARD OF 'cloaklaw04.TicketHonest'. -/
def ticketHonestUptoCard : Claim7 := { stood := { row := ticketHonestUptoRow, standIns := [], harness := (true, "e52efc7986eb6363d55402c71c9d6d5781edf23e4f9d67f7cdc29b83d901a237"), looks := true }, kinds := [], alts := [], laidByText := true, laidKinds := [.data, .data, .data], laidTests := true, laidLooks := .later }
def TicketHonestUptoCardSaid : Prop := Claim7.holds Tryz.pinned (.plain (OpenSpec.upto ticketHonestSpec)) ticketHonestUptoCard

/-- THE SECOND FORM's CARD OF 'cloaklaw04.TicketLends'. -/
def ticketLendsUptoCard : Claim7 := { stood := { row := ticketLendsUptoRow, standIns := [], harness := (true, "e52efc7986eb6363d55402c71c9d6d5781edf23e4f9d67f7cdc29b83d901a237"), looks := true }, kinds := [], alts := [], laidByText := true, laidKinds := [.data, .data, .data], laidTests := true, laidLooks := .later }
def TicketLendsUptoCardSaid : Prop := Claim7.holds Tryz.pinned (.plain (OpenSpec.upto ticketLendsSpec)) ticketLendsUptoCard

/-- THE SECOND FORM's CARD OF 'cloaklaw04.TicketBlind'. -/
def ticketBlindUptoCard : Claim7 := { stood := { row := ticketBlindUptoRow, standIns := [], harness := (true, "e52efc7986eb6363d55402c71c9d6d5781edf23e4f9d67f7cdc29b83d901a237"), looks := true }, kinds := [], alts := [], laidByText := true, laidKinds := [.data, .data, .data], laidTests := true, laidLooks := .later }
def TicketBlindUptoCardSaid : Prop := Claim7.holds Tryz.pinned (.plain (OpenSpec.upto ticketBlindSpec)) ticketBlindUptoCard

/-- THE SECOND FORM's CARD OF 'cloaklaw04.TicketFollows'. -/
def ticketFollowsUptoCard : Claim7 := { stood := { row := ticketFollowsUptoRow, standIns := [], harness := (true, "e52efc7986eb6363d55402c71c9d6d5781edf23e4f9d67f7cdc29b83d901a237"), looks := true }, kinds := [], alts := [], laidByText := true, laidKinds := [.data, .data, .data], laidTests := true, laidLooks := .later }
def TicketFollowsUptoCardSaid : Prop := Claim7.holds Tryz.pinned (.plain (OpenSpec.upto ticketFollowsSpec)) ticketFollowsUptoCard

/-- THE SECOND FORM's CARD OF 'cloaklaw04.TicketChecks'. -/
def ticketChecksUptoCard : Claim7 := { stood := { row := ticketChecksUptoRow, standIns := [], harness := (true, "e52efc7986eb6363d55402c71c9d6d5781edf23e4f9d67f7cdc29b83d901a237"), looks := true }, kinds := [], alts := [], laidByText := true, laidKinds := [.data, .data, .data, .sentinel, .sentinel], laidTests := true, laidLooks := .later }
def TicketChecksUptoCardSaid : Prop := Claim7.holds Tryz.pinned (.plain (OpenSpec.upto ticketChecksSpec)) ticketChecksUptoCard
end Rows
end Go.Proofs.YtpfjmfgnlpnflaaGreatDoor
