/-
  DERIVED. GIVEN WITH THE SEED: THE CARDS: each row of YtpimhdkjpccihaaGreatDoorRows.lean that lists a variable, with what it lists TIED to the program's text (the seventh form; the later family's looks); each row that meets fmt, with fmt's text TOLD by the authors' own Lean function (tested against real Go, not proved from fmt's source: count such statements apart). THE CARD IS WHAT COUNTS. Prove the row's statement (the work); the ties are given (YtpimhdkjpccihaaGreatDoorTie.lean); close each card by the builder's one call (the guide's Derived/Test/ToyasCard.lean, 'card_holds'). Laid BY PROGRAM, IN A SANDBOX (cutbox-door.mjs). By AI agents, Wed Nov 11 2026. No macro, syntax, notation, axiom, sorry.
-/
import Derived.Test.YtpimhdkjpccihaaGreatDoorRows
import GoSem.ClaimSeven
namespace Go.Proofs.YtpimhdkjpccihaaGreatDoor
namespace Rows

/-- THE TIED CARD OF 'cloaktop.TopHolders'. -/
def topHoldersCard : Claim7 := { stood := { row := topHoldersRow, standIns := [], harness := (true, "c74675cb7f30aea5f4b1aa4854b26ecb2ffcafb88e0fe29b3baaf0a6f40dd744"), looks := true }, kinds := [], alts := [], laidByText := true, laidKinds := [.data, .data, .data], laidTests := true, laidLooks := .later }
def TopHoldersCardSaid : Prop := Claim7.holds Tryz.pinned (.plain (OpenSpec.ofChange topHoldersSpec)) topHoldersCard

/-- THE TIED CARD OF 'cloaklaw04.TicketTells'. -/
def ticketTellsCard : Claim7 := { stood := { row := ticketTellsRow, standIns := [], harness := (true, "c74675cb7f30aea5f4b1aa4854b26ecb2ffcafb88e0fe29b3baaf0a6f40dd744"), looks := true }, kinds := [], alts := [], laidByText := true, laidKinds := [.data, .data, .data], laidTests := true, laidLooks := .later }
def TicketTellsCardSaid : Prop := Claim7.holds Tryz.pinned (.plain (OpenSpec.ofChange ticketTellsSpec)) ticketTellsCard

/-- THE TIED CARD OF 'cloaklaw04.TicketCounts'. -/
def ticketCountsCard : Claim7 := { stood := { row := ticketCountsRow, standIns := [], harness := (true, "c74675cb7f30aea5f4b1aa4854b26ecb2ffcafb88e0fe29b3baaf0a6f40dd744"), looks := true }, kinds := [], alts := [], laidByText := true, laidKinds := [.data, .data, .data], laidTests := true, laidLooks := .later }
def TicketCountsCardSaid : Prop := Claim7.holds Tryz.pinned (.plain (OpenSpec.ofChange ticketCountsSpec)) ticketCountsCard

/-- THE TIED CARD OF 'cloaklaw04.TicketHides'. -/
def ticketHidesCard : Claim7 := { stood := { row := ticketHidesRow, standIns := [], harness := (true, "c74675cb7f30aea5f4b1aa4854b26ecb2ffcafb88e0fe29b3baaf0a6f40dd744"), looks := true }, kinds := [], alts := [], laidByText := true, laidKinds := [.data, .data, .data], laidTests := true, laidLooks := .later }
def TicketHidesCardSaid : Prop := Claim7.holds Tryz.pinned (.plain (OpenSpec.ofChange ticketHidesSpec)) ticketHidesCard

/-- THE TIED CARD OF 'cloaklaw04.TicketFollows'. -/
def ticketFollowsCard : Claim7 := { stood := { row := ticketFollowsRow, standIns := [], harness := (true, "c74675cb7f30aea5f4b1aa4854b26ecb2ffcafb88e0fe29b3baaf0a6f40dd744"), looks := true }, kinds := [], alts := [], laidByText := true, laidKinds := [.data, .data, .data], laidTests := true, laidLooks := .later }
def TicketFollowsCardSaid : Prop := Claim7.holds Tryz.pinned (.plain (OpenSpec.ofChange ticketFollowsSpec)) ticketFollowsCard

/-- THE TIED CARD OF 'cloaklaw04.TicketCodes'. -/
def ticketCodesCard : Claim7 := { stood := { row := ticketCodesRow, standIns := [], harness := (true, "c74675cb7f30aea5f4b1aa4854b26ecb2ffcafb88e0fe29b3baaf0a6f40dd744"), looks := true }, kinds := [], alts := [], laidByText := true, laidKinds := [.data, .data, .data, .sentinel, .sentinel], laidTests := true, laidLooks := .later }
def TicketCodesCardSaid : Prop := Claim7.holds Tryz.pinned (.plain (OpenSpec.ofChange ticketCodesSpec)) ticketCodesCard

/-- THE TIED CARD OF 'cloaklaw04.TicketChecks'. -/
def ticketChecksCard : Claim7 := { stood := { row := ticketChecksRow, standIns := [], harness := (true, "c74675cb7f30aea5f4b1aa4854b26ecb2ffcafb88e0fe29b3baaf0a6f40dd744"), looks := true }, kinds := [], alts := [], laidByText := true, laidKinds := [.data, .data, .data, .sentinel, .sentinel], laidTests := true, laidLooks := .later }
def TicketChecksCardSaid : Prop := Claim7.holds Tryz.pinned (.plain (OpenSpec.ofChange ticketChecksSpec)) ticketChecksCard

/-- THE SECOND FORM's CARD OF 'cloaktop.TopHolders'. -/
def topHoldersUptoCard : Claim7 := { stood := { row := topHoldersUptoRow, standIns := [], harness := (true, "c74675cb7f30aea5f4b1aa4854b26ecb2ffcafb88e0fe29b3baaf0a6f40dd744"), looks := true }, kinds := [], alts := [], laidByText := true, laidKinds := [.data, .data, .data], laidTests := true, laidLooks := .later }
def TopHoldersUptoCardSaid : Prop := Claim7.holds Tryz.pinned (.plain (OpenSpec.upto topHoldersSpec)) topHoldersUptoCard

/-- THE SECOND FORM's CARD OF 'cloaklaw04.TicketTells'. -/
def ticketTellsUptoCard : Claim7 := { stood := { row := ticketTellsUptoRow, standIns := [], harness := (true, "c74675cb7f30aea5f4b1aa4854b26ecb2ffcafb88e0fe29b3baaf0a6f40dd744"), looks := true }, kinds := [], alts := [], laidByText := true, laidKinds := [.data, .data, .data], laidTests := true, laidLooks := .later }
def TicketTellsUptoCardSaid : Prop := Claim7.holds Tryz.pinned (.plain (OpenSpec.upto ticketTellsSpec)) ticketTellsUptoCard

/-- THE SECOND FORM's CARD OF 'cloaklaw04.TicketCounts'. -/
def ticketCountsUptoCard : Claim7 := { stood := { row := ticketCountsUptoRow, standIns := [], harness := (true, "c74675cb7f30aea5f4b1aa4854b26ecb2ffcafb88e0fe29b3baaf0a6f40dd744"), looks := true }, kinds := [], alts := [], laidByText := true, laidKinds := [.data, .data, .data], laidTests := true, laidLooks := .later }
def TicketCountsUptoCardSaid : Prop := Claim7.holds Tryz.pinned (.plain (OpenSpec.upto ticketCountsSpec)) ticketCountsUptoCard

/-- THE SECOND FORM's CARD OF 'cloaklaw04.TicketHides'. -/
def ticketHidesUptoCard : Claim7 := { stood := { row := ticketHidesUptoRow, standIns := [], harness := (true, "c74675cb7f30aea5f4b1aa4854b26ecb2ffcafb88e0fe29b3baaf0a6f40dd744"), looks := true }, kinds := [], alts := [], laidByText := true, laidKinds := [.data, .data, .data], laidTests := true, laidLooks := .later }
def TicketHidesUptoCardSaid : Prop := Claim7.holds Tryz.pinned (.plain (OpenSpec.upto ticketHidesSpec)) ticketHidesUptoCard

/-- THE SECOND FORM's CARD OF 'cloaklaw04.TicketFollows'. -/
def ticketFollowsUptoCard : Claim7 := { stood := { row := ticketFollowsUptoRow, standIns := [], harness := (true, "c74675cb7f30aea5f4b1aa4854b26ecb2ffcafb88e0fe29b3baaf0a6f40dd744"), looks := true }, kinds := [], alts := [], laidByText := true, laidKinds := [.data, .data, .data], laidTests := true, laidLooks := .later }
def TicketFollowsUptoCardSaid : Prop := Claim7.holds Tryz.pinned (.plain (OpenSpec.upto ticketFollowsSpec)) ticketFollowsUptoCard

/-- THE SECOND FORM's CARD OF 'cloaklaw04.TicketCodes'. -/
def ticketCodesUptoCard : Claim7 := { stood := { row := ticketCodesUptoRow, standIns := [], harness := (true, "c74675cb7f30aea5f4b1aa4854b26ecb2ffcafb88e0fe29b3baaf0a6f40dd744"), looks := true }, kinds := [], alts := [], laidByText := true, laidKinds := [.data, .data, .data, .sentinel, .sentinel], laidTests := true, laidLooks := .later }
def TicketCodesUptoCardSaid : Prop := Claim7.holds Tryz.pinned (.plain (OpenSpec.upto ticketCodesSpec)) ticketCodesUptoCard

/-- THE SECOND FORM's CARD OF 'cloaklaw04.TicketChecks'. -/
def ticketChecksUptoCard : Claim7 := { stood := { row := ticketChecksUptoRow, standIns := [], harness := (true, "c74675cb7f30aea5f4b1aa4854b26ecb2ffcafb88e0fe29b3baaf0a6f40dd744"), looks := true }, kinds := [], alts := [], laidByText := true, laidKinds := [.data, .data, .data, .sentinel, .sentinel], laidTests := true, laidLooks := .later }
def TicketChecksUptoCardSaid : Prop := Claim7.holds Tryz.pinned (.plain (OpenSpec.upto ticketChecksSpec)) ticketChecksUptoCard
end Rows
end Go.Proofs.YtpimhdkjpccihaaGreatDoor
