/-
  DERIVED. GIVEN WITH THE SEED: THE CARDS: each row of YtpfjmfgnlpnflaaDoorRows.lean that lists a variable, with what it lists TIED to the program's text (the seventh form; the later family's looks); each row that meets fmt, with fmt's text TOLD by the authors' own Lean function (tested against real Go, not proved from fmt's source: count such statements apart). THE CARD IS WHAT COUNTS. Prove the row's statement (the work); the ties are given (YtpfjmfgnlpnflaaDoorTie.lean); close each card by the builder's one call (the guide's Derived/Test/ToyasCard.lean, 'card_holds'). Laid BY PROGRAM, IN A SANDBOX (cutbox-door.mjs). By AI agents, Wed Nov 11 2026. No macro, syntax, notation, axiom, sorry.
-/
import Derived.Test.YtpfjmfgnlpnflaaDoorRows
import GoSem.ClaimSeven
namespace Go.Proofs.YtpfjmfgnlpnflaaDoor
namespace Rows

/-- THE TIED CARD OF 'cloaklaw04.TicketReveals'. -/
def ticketRevealsCard : Claim7 := { stood := { row := ticketRevealsRow, standIns := [], harness := (true, "3b3501b957181eb427db30161e2e9c5856ad3a33a85ffdb37ea099591f1975e8"), looks := false }, kinds := [], alts := [], laidByText := true, laidKinds := [.data, .data, .data], laidTests := true, laidLooks := .later }
def TicketRevealsCardSaid : Prop := Claim7.holds Tryd.pinned (.plain (OpenSpec.ofChange ticketRevealsSpec)) ticketRevealsCard

/-- THE TIED CARD OF 'cloaklaw04.TicketMarks'. -/
def ticketMarksCard : Claim7 := { stood := { row := ticketMarksRow, standIns := [], harness := (true, "3b3501b957181eb427db30161e2e9c5856ad3a33a85ffdb37ea099591f1975e8"), looks := false }, kinds := [], alts := [], laidByText := true, laidKinds := [.data, .data, .data], laidTests := true, laidLooks := .later }
def TicketMarksCardSaid : Prop := Claim7.holds Tryd.pinned (.plain (OpenSpec.ofChange ticketMarksSpec)) ticketMarksCard

/-- THE SECOND FORM's CARD OF 'cloaklaw04.TicketReveals'. -/
def ticketRevealsUptoCard : Claim7 := { stood := { row := ticketRevealsUptoRow, standIns := [], harness := (true, "3b3501b957181eb427db30161e2e9c5856ad3a33a85ffdb37ea099591f1975e8"), looks := false }, kinds := [], alts := [], laidByText := true, laidKinds := [.data, .data, .data], laidTests := true, laidLooks := .later }
def TicketRevealsUptoCardSaid : Prop := Claim7.holds Tryd.pinned (.plain (OpenSpec.upto ticketRevealsSpec)) ticketRevealsUptoCard

/-- THE SECOND FORM's CARD OF 'cloaklaw04.TicketMarks'. -/
def ticketMarksUptoCard : Claim7 := { stood := { row := ticketMarksUptoRow, standIns := [], harness := (true, "3b3501b957181eb427db30161e2e9c5856ad3a33a85ffdb37ea099591f1975e8"), looks := false }, kinds := [], alts := [], laidByText := true, laidKinds := [.data, .data, .data], laidTests := true, laidLooks := .later }
def TicketMarksUptoCardSaid : Prop := Claim7.holds Tryd.pinned (.plain (OpenSpec.upto ticketMarksSpec)) ticketMarksUptoCard
end Rows
end Go.Proofs.YtpfjmfgnlpnflaaDoor
