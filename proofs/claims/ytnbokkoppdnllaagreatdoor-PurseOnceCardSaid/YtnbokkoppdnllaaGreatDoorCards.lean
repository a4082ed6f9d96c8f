/-
  DERIVED. GIVEN WITH THE SEED: THE CARDS: each row of YtnbokkoppdnllaaGreatDoorRows.lean that lists a variable, with what it lists TIED to the program's text (the seventh form; the later family's looks); each row that meets fmt, with fmt's text TOLD by the authors' own Lean function (tested against real Go, not proved from fmt's source: count such statements apart). THE CARD IS WHAT COUNTS. Prove the row's statement (the work); the ties are given (YtnbokkoppdnllaaGreatDoorTie.lean); close each card by the builder's one call (the guide's Derived/Test/ToyasCard.lean, 'card_holds'). Laid BY PROGRAM, IN A SANDBOX (cutbox-door.mjs). By AI agents, Wed Nov 11 2026. No macro, syntax, notation, axiom, sorry.
-/
import Derived.Test.YtnbokkoppdnllaaGreatDoorRows
import GoSem.ClaimSeven
namespace Go.Proofs.YtnbokkoppdnllaaGreatDoor
namespace Rows

/-- THE TIED CARD OF 'cloaklaw07.PurseBack'. -/
def purseBackCard : Claim7 := { stood := { row := purseBackRow, standIns := [], harness := (true, "83a40002ecef175e978498172a454babce42c7f2994452fa507dbaeade076e89"), looks := true }, kinds := [], alts := [], laidByText := true, laidKinds := [.data, .data, .data, .sentinel, .sentinel], laidTests := true, laidLooks := .later }
def PurseBackCardSaid : Prop := Claim7.holds Tryz.pinned (.plain (OpenSpec.ofChange purseBackSpec)) purseBackCard

/-- THE TIED CARD OF 'cloaklaw07.PurseWindows'. -/
def purseWindowsCard : Claim7 := { stood := { row := purseWindowsRow, standIns := [], harness := (true, "83a40002ecef175e978498172a454babce42c7f2994452fa507dbaeade076e89"), looks := true }, kinds := [], alts := [], laidByText := true, laidKinds := [.data, .data, .data, .sentinel, .sentinel], laidTests := true, laidLooks := .later }
def PurseWindowsCardSaid : Prop := Claim7.holds Tryz.pinned (.plain (OpenSpec.ofChange purseWindowsSpec)) purseWindowsCard

/-- THE TIED CARD OF 'cloaklaw07.PurseNarrows'. -/
def purseNarrowsCard : Claim7 := { stood := { row := purseNarrowsRow, standIns := [], harness := (true, "83a40002ecef175e978498172a454babce42c7f2994452fa507dbaeade076e89"), looks := true }, kinds := [], alts := [], laidByText := true, laidKinds := [.data, .data, .data, .sentinel, .sentinel], laidTests := true, laidLooks := .later }
def PurseNarrowsCardSaid : Prop := Claim7.holds Tryz.pinned (.plain (OpenSpec.ofChange purseNarrowsSpec)) purseNarrowsCard

/-- THE TIED CARD OF 'cloaklaw07.PurseLeft'. -/
def purseLeftCard : Claim7 := { stood := { row := purseLeftRow, standIns := [], harness := (true, "83a40002ecef175e978498172a454babce42c7f2994452fa507dbaeade076e89"), looks := true }, kinds := [], alts := [], laidByText := true, laidKinds := [.data, .data, .data, .sentinel, .sentinel], laidTests := true, laidLooks := .later }
def PurseLeftCardSaid : Prop := Claim7.holds Tryz.pinned (.plain (OpenSpec.ofChange purseLeftSpec)) purseLeftCard

/-- THE TIED CARD OF 'cloaklaw07.PurseBurns'. -/
def purseBurnsCard : Claim7 := { stood := { row := purseBurnsRow, standIns := [], harness := (true, "83a40002ecef175e978498172a454babce42c7f2994452fa507dbaeade076e89"), looks := true }, kinds := [], alts := [], laidByText := true, laidKinds := [.data, .data, .data, .sentinel, .sentinel], laidTests := true, laidLooks := .later }
def PurseBurnsCardSaid : Prop := Claim7.holds Tryz.pinned (.plain (OpenSpec.ofChange purseBurnsSpec)) purseBurnsCard

/-- THE TIED CARD OF 'cloaklaw07.PurseOnce'. -/
def purseOnceCard : Claim7 := { stood := { row := purseOnceRow, standIns := [], harness := (true, "83a40002ecef175e978498172a454babce42c7f2994452fa507dbaeade076e89"), looks := true }, kinds := [], alts := [], laidByText := true, laidKinds := [.data, .data, .data, .sentinel, .sentinel], laidTests := true, laidLooks := .later }
def PurseOnceCardSaid : Prop := Claim7.holds Tryz.pinned (.plain (OpenSpec.ofChange purseOnceSpec)) purseOnceCard

/-- THE TIED CARD OF 'cloaklaw07.PurseLends'. -/
def purseLendsCard : Claim7 := { stood := { row := purseLendsRow, standIns := [], harness := (true, "83a40002ecef175e978498172a454babce42c7f2994452fa507dbaeade076e89"), looks := true }, kinds := [], alts := [], laidByText := true, laidKinds := [.data, .data, .data, .sentinel, .sentinel], laidTests := true, laidLooks := .later }
def PurseLendsCardSaid : Prop := Claim7.holds Tryz.pinned (.plain (OpenSpec.ofChange purseLendsSpec)) purseLendsCard

/-- THE TIED CARD OF 'cloaklaw07.PurseRestores'. -/
def purseRestoresCard : Claim7 := { stood := { row := purseRestoresRow, standIns := [], harness := (true, "83a40002ecef175e978498172a454babce42c7f2994452fa507dbaeade076e89"), looks := true }, kinds := [], alts := [], laidByText := true, laidKinds := [.data, .data, .data, .sentinel, .sentinel], laidTests := true, laidLooks := .later }
def PurseRestoresCardSaid : Prop := Claim7.holds Tryz.pinned (.plain (OpenSpec.ofChange purseRestoresSpec)) purseRestoresCard

/-- THE TIED CARD OF 'cloaklaw07.PurseRemainder'. -/
def purseRemainderCard : Claim7 := { stood := { row := purseRemainderRow, standIns := [], harness := (true, "83a40002ecef175e978498172a454babce42c7f2994452fa507dbaeade076e89"), looks := true }, kinds := [], alts := [], laidByText := true, laidKinds := [.data, .data, .data, .sentinel, .sentinel], laidTests := true, laidLooks := .later }
def PurseRemainderCardSaid : Prop := Claim7.holds Tryz.pinned (.plain (OpenSpec.ofChange purseRemainderSpec)) purseRemainderCard

/-- THE SECOND FORM's CARD OF 'cloaklaw07.PurseBack'. -/
def purseBackUptoCard : Claim7 := { stood := { row := purseBackUptoRow, standIns := [], harness := (true, "83a40002ecef175e978498172a454babce42c7f2994452fa507dbaeade076e89"), looks := true }, kinds := [], alts := [], laidByText := true, laidKinds := [.data, .data, .data, .sentinel, .sentinel], laidTests := true, laidLooks := .later }
def PurseBackUptoCardSaid : Prop := Claim7.holds Tryz.pinned (.plain (OpenSpec.upto purseBackSpec)) purseBackUptoCard

/-- THE SECOND FORM's CARD OF 'cloaklaw07.PurseWindows'. -/
def purseWindowsUptoCard : Claim7 := { stood := { row := purseWindowsUptoRow, standIns := [], harness := (true, "83a40002ecef175e978498172a454babce42c7f2994452fa507dbaeade076e89"), looks := true }, kinds := [], alts := [], laidByText := true, laidKinds := [.data, .data, .data, .sentinel, .sentinel], laidTests := true, laidLooks := .later }
def PurseWindowsUptoCardSaid : Prop := Claim7.holds Tryz.pinned (.plain (OpenSpec.upto purseWindowsSpec)) purseWindowsUptoCard

/-- THE SECOND FORM's CARD OF 'cloaklaw07.PurseNarrows'. -/
def purseNarrowsUptoCard : Claim7 := { stood := { row := purseNarrowsUptoRow, standIns := [], harness := (true, "83a40002ecef175e978498172a454babce42c7f2994452fa507dbaeade076e89"), looks := true }, kinds := [], alts := [], laidByText := true, laidKinds := [.data, .data, .data, .sentinel, .sentinel], laidTests := true, laidLooks := .later }
def PurseNarrowsUptoCardSaid : Prop := Claim7.holds Tryz.pinned (.plain (OpenSpec.upto purseNarrowsSpec)) purseNarrowsUptoCard

/-- THE SECOND FORM's CARD OF 'cloaklaw07.PurseLeft'. -/
def purseLeftUptoCard : Claim7 := { stood := { row := purseLeftUptoRow, standIns := [], harness := (true, "83a40002ecef175e978498172a454babce42c7f2994452fa507dbaeade076e89"), looks := true }, kinds := [], alts := [], laidByText := true, laidKinds := [.data, .data, .data, .sentinel, .sentinel], laidTests := true, laidLooks := .later }
def PurseLeftUptoCardSaid : Prop := Claim7.holds Tryz.pinned (.plain (OpenSpec.upto purseLeftSpec)) purseLeftUptoCard

/-- THE SECOND FORM's CARD OF 'cloaklaw07.PurseBurns'. -/
def purseBurnsUptoCard : Claim7 := { stood := { row := purseBurnsUptoRow, standIns := [], harness := (true, "83a40002ecef175e978498172a454babce42c7f2994452fa507dbaeade076e89"), looks := true }, kinds := [], alts := [], laidByText := true, laidKinds := [.data, .data, .data, .sentinel, .sentinel], laidTests := true, laidLooks := .later }
def PurseBurnsUptoCardSaid : Prop := Claim7.holds Tryz.pinned (.plain (OpenSpec.upto purseBurnsSpec)) purseBurnsUptoCard

/-- THE SECOND FORM's CARD OF 'cloaklaw07.PurseOnce'. -/
def purseOnceUptoCard : Claim7 := { stood := { row := purseOnceUptoRow, standIns := [], harness := (true, "83a40002ecef175e978498172a454babce42c7f2994452fa507dbaeade076e89"), looks := true }, kinds := [], alts := [], laidByText := true, laidKinds := [.data, .data, .data, .sentinel, .sentinel], laidTests := true, laidLooks := .later }
def PurseOnceUptoCardSaid : Prop := Claim7.holds Tryz.pinned (.plain (OpenSpec.upto purseOnceSpec)) purseOnceUptoCard

/-- THE SECOND FORM's CARD OF 'cloaklaw07.PurseLends'. -/
def purseLendsUptoCard : Claim7 := { stood := { row := purseLendsUptoRow, standIns := [], harness := (true, "83a40002ecef175e978498172a454babce42c7f2994452fa507dbaeade076e89"), looks := true }, kinds := [], alts := [], laidByText := true, laidKinds := [.data, .data, .data, .sentinel, .sentinel], laidTests := true, laidLooks := .later }
def PurseLendsUptoCardSaid : Prop := Claim7.holds Tryz.pinned (.plain (OpenSpec.upto purseLendsSpec)) purseLendsUptoCard

/-- THE SECOND FORM's CARD OF 'cloaklaw07.PurseRestores'. -/
def purseRestoresUptoCard : Claim7 := { stood := { row := purseRestoresUptoRow, standIns := [], harness := (true, "83a40002ecef175e978498172a454babce42c7f2994452fa507dbaeade076e89"), looks := true }, kinds := [], alts := [], laidByText := true, laidKinds := [.data, .data, .data, .sentinel, .sentinel], laidTests := true, laidLooks := .later }
def PurseRestoresUptoCardSaid : Prop := Claim7.holds Tryz.pinned (.plain (OpenSpec.upto purseRestoresSpec)) purseRestoresUptoCard

/-- THE SECOND FORM's CARD OF 'cloaklaw07.PurseRemainder'. -/
def purseRemainderUptoCard : Claim7 := { stood := { row := purseRemainderUptoRow, standIns := [], harness := (true, "83a40002ecef175e978498172a454babce42c7f2994452fa507dbaeade076e89"), looks := true }, kinds := [], alts := [], laidByText := true, laidKinds := [.data, .data, .data, .sentinel, .sentinel], laidTests := true, laidLooks := .later }
def PurseRemainderUptoCardSaid : Prop := Claim7.holds Tryz.pinned (.plain (OpenSpec.upto purseRemainderSpec)) purseRemainderUptoCard
end Rows
end Go.Proofs.YtnbokkoppdnllaaGreatDoor
