/-
  DERIVED. GIVEN WITH THE SEED: THE CARDS: each row of YtilcjegkodkpiaaDoorRows.lean that lists a variable, with what it lists TIED to the program's text (the seventh form; the later family's looks); each row that meets fmt, with fmt's text TOLD by the authors' own Lean function (tested against real Go, not proved from fmt's source: count such statements apart). THE CARD IS WHAT COUNTS. Prove the row's statement (the work); the ties are given (YtilcjegkodkpiaaDoorTie.lean); close each card by the builder's one call (the guide's Derived/Test/ToyasCard.lean, 'card_holds'). Laid BY PROGRAM, IN A SANDBOX (cutbox-door.mjs). By AI agents, Wed Nov 11 2026. No macro, syntax, notation, axiom, sorry.
-/
import Derived.Test.YtilcjegkodkpiaaDoorRows
import GoSem.ClaimSeven
namespace Go.Proofs.YtilcjegkodkpiaaDoor
namespace Rows

/-- THE TIED CARD OF 'cloaklaw01.BaseTokens'. -/
def baseTokensCard : Claim7 := { stood := { row := baseTokensRow, standIns := [], harness := (true, "6a3ca85849a486f5aba5eccece1ef6037e62031d95617fdfe0f0353b61524f8d"), looks := false }, kinds := [], alts := [], laidByText := true, laidKinds := [.data], laidTests := true, laidLooks := .later }
def BaseTokensCardSaid : Prop := Claim7.holds Tryd.pinned (.plain (OpenSpec.ofChange baseTokensSpec)) baseTokensCard

/-- THE TIED CARD OF 'cloaklaw01.BaseJoins'. -/
def baseJoinsCard : Claim7 := { stood := { row := baseJoinsRow, standIns := [], harness := (true, "6a3ca85849a486f5aba5eccece1ef6037e62031d95617fdfe0f0353b61524f8d"), looks := false }, kinds := [], alts := [], laidByText := true, laidKinds := [.data], laidTests := true, laidLooks := .later }
def BaseJoinsCardSaid : Prop := Claim7.holds Tryd.pinned (.plain (OpenSpec.ofChange baseJoinsSpec)) baseJoinsCard

/-- THE TIED CARD OF 'cloaklaw01.BaseErrors'. -/
def baseErrorsCard : Claim7 := { stood := { row := baseErrorsRow, standIns := [], harness := (true, "6a3ca85849a486f5aba5eccece1ef6037e62031d95617fdfe0f0353b61524f8d"), looks := false }, kinds := [], alts := [], laidByText := true, laidKinds := [.data], laidTests := true, laidLooks := .later }
def BaseErrorsCardSaid : Prop := Claim7.holds Tryd.pinned (.plain (OpenSpec.ofChange baseErrorsSpec)) baseErrorsCard

/-- THE TIED CARD OF 'cloaklaw01.BaseScans'. -/
def baseScansCard : Claim7 := { stood := { row := baseScansRow, standIns := [], harness := (true, "6a3ca85849a486f5aba5eccece1ef6037e62031d95617fdfe0f0353b61524f8d"), looks := false }, kinds := [], alts := [], laidByText := true, laidKinds := [.data], laidTests := true, laidLooks := .later }
def BaseScansCardSaid : Prop := Claim7.holds Tryd.pinned (.plain (OpenSpec.ofChange baseScansSpec)) baseScansCard

/-- THE TIED CARD OF 'cloaklaw01.BaseQuotes'. -/
def baseQuotesCard : Claim7 := { stood := { row := baseQuotesRow, standIns := [], harness := (true, "6a3ca85849a486f5aba5eccece1ef6037e62031d95617fdfe0f0353b61524f8d"), looks := false }, kinds := [], alts := [], laidByText := true, laidKinds := [.data], laidTests := true, laidLooks := .later }
def BaseQuotesCardSaid : Prop := Claim7.holds Tryd.pinned (.plain (OpenSpec.ofChange baseQuotesSpec)) baseQuotesCard

/-- THE SECOND FORM's CARD OF 'cloaklaw01.BaseTokens'. -/
def baseTokensUptoCard : Claim7 := { stood := { row := baseTokensUptoRow, standIns := [], harness := (true, "6a3ca85849a486f5aba5eccece1ef6037e62031d95617fdfe0f0353b61524f8d"), looks := false }, kinds := [], alts := [], laidByText := true, laidKinds := [.data], laidTests := true, laidLooks := .later }
def BaseTokensUptoCardSaid : Prop := Claim7.holds Tryd.pinned (.plain (OpenSpec.upto baseTokensSpec)) baseTokensUptoCard

/-- THE SECOND FORM's CARD OF 'cloaklaw01.BaseJoins'. -/
def baseJoinsUptoCard : Claim7 := { stood := { row := baseJoinsUptoRow, standIns := [], harness := (true, "6a3ca85849a486f5aba5eccece1ef6037e62031d95617fdfe0f0353b61524f8d"), looks := false }, kinds := [], alts := [], laidByText := true, laidKinds := [.data], laidTests := true, laidLooks := .later }
def BaseJoinsUptoCardSaid : Prop := Claim7.holds Tryd.pinned (.plain (OpenSpec.upto baseJoinsSpec)) baseJoinsUptoCard

/-- THE SECOND FORM's CARD OF 'cloaklaw01.BaseErrors'. -/
def baseErrorsUptoCard : Claim7 := { stood := { row := baseErrorsUptoRow, standIns := [], harness := (true, "6a3ca85849a486f5aba5eccece1ef6037e62031d95617fdfe0f0353b61524f8d"), looks := false }, kinds := [], alts := [], laidByText := true, laidKinds := [.data], laidTests := true, laidLooks := .later }
def BaseErrorsUptoCardSaid : Prop := Claim7.holds Tryd.pinned (.plain (OpenSpec.upto baseErrorsSpec)) baseErrorsUptoCard

/-- THE SECOND FORM's CARD OF 'cloaklaw01.BaseScans'. -/
def baseScansUptoCard : Claim7 := { stood := { row := baseScansUptoRow, standIns := [], harness := (true, "6a3ca85849a486f5aba5eccece1ef6037e62031d95617fdfe0f0353b61524f8d"), looks := false }, kinds := [], alts := [], laidByText := true, laidKinds := [.data], laidTests := true, laidLooks := .later }
def BaseScansUptoCardSaid : Prop := Claim7.holds Tryd.pinned (.plain (OpenSpec.upto baseScansSpec)) baseScansUptoCard

/-- THE SECOND FORM's CARD OF 'cloaklaw01.BaseQuotes'. -/
def baseQuotesUptoCard : Claim7 := { stood := { row := baseQuotesUptoRow, standIns := [], harness := (true, "6a3ca85849a486f5aba5eccece1ef6037e62031d95617fdfe0f0353b61524f8d"), looks := false }, kinds := [], alts := [], laidByText := true, laidKinds := [.data], laidTests := true, laidLooks := .later }
def BaseQuotesUptoCardSaid : Prop := Claim7.holds Tryd.pinned (.plain (OpenSpec.upto baseQuotesSpec)) baseQuotesUptoCard
end Rows
end Go.Proofs.YtilcjegkodkpiaaDoor
