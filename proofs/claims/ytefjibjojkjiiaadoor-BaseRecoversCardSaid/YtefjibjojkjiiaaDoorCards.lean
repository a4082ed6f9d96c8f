/-
  DERIVED. GIVEN WITH THE SEED: THE CARDS: each row of YtefjibjojkjiiaaDoorRows.lean that lists a variable, with what it lists TIED to the program's text (the seventh form; the later family's looks); each row that meets fmt, with fmt's text TOLD by the authors' own Lean function (tested against real Go, not proved from fmt's source: count such statements apart). THE CARD IS WHAT COUNTS. Prove the row's statement (the work); the ties are given (YtefjibjojkjiiaaDoorTie.lean); close each card by the builder's one call (the guide's Derived/Test/ToyasCard.lean, 'card_holds'). Laid BY PROGRAM, IN A SANDBOX (cutbox-door.mjs). By AI agents, Wed Nov 11 2026. No macro, syntax, notation, axiom, sorry.
-/
import Derived.Test.YtefjibjojkjiiaaDoorRows
import GoSem.ClaimSeven
namespace Go.Proofs.YtefjibjojkjiiaaDoor
namespace Rows

/-- THE TIED CARD OF 'cloaklaw01.BaseWrites'. -/
def baseWritesCard : Claim7 := { stood := { row := baseWritesRow, standIns := [], harness := (true, "f0181c761b16deb11918360954f039669f930c27d51e2fa73aba4c14e15e91ae"), looks := true }, kinds := [], alts := [], laidByText := true, laidKinds := [.data, .data, .data, .sentinel, .sentinel], laidTests := true, laidLooks := .later }
def BaseWritesCardSaid : Prop := Claim7.holds Tryd.pinned (.plain (OpenSpec.ofChange baseWritesSpec)) baseWritesCard

/-- THE TIED CARD OF 'cloaklaw01.BaseAgain'. -/
def baseAgainCard : Claim7 := { stood := { row := baseAgainRow, standIns := [], harness := (true, "f0181c761b16deb11918360954f039669f930c27d51e2fa73aba4c14e15e91ae"), looks := true }, kinds := [], alts := [], laidByText := true, laidKinds := [.data, .data, .data, .sentinel, .sentinel], laidTests := true, laidLooks := .later }
def BaseAgainCardSaid : Prop := Claim7.holds Tryd.pinned (.plain (OpenSpec.ofChange baseAgainSpec)) baseAgainCard

/-- THE TIED CARD OF 'cloaklaw01.BaseNests'. -/
def baseNestsCard : Claim7 := { stood := { row := baseNestsRow, standIns := [], harness := (true, "f0181c761b16deb11918360954f039669f930c27d51e2fa73aba4c14e15e91ae"), looks := true }, kinds := [], alts := [], laidByText := true, laidKinds := [.data, .data, .data, .sentinel, .sentinel], laidTests := true, laidLooks := .later }
def BaseNestsCardSaid : Prop := Claim7.holds Tryd.pinned (.plain (OpenSpec.ofChange baseNestsSpec)) baseNestsCard

/-- THE TIED CARD OF 'cloaklaw01.BaseReads'. -/
def baseReadsCard : Claim7 := { stood := { row := baseReadsRow, standIns := [], harness := (true, "f0181c761b16deb11918360954f039669f930c27d51e2fa73aba4c14e15e91ae"), looks := true }, kinds := [], alts := [], laidByText := true, laidKinds := [.data, .data, .data, .sentinel, .sentinel], laidTests := true, laidLooks := .later }
def BaseReadsCardSaid : Prop := Claim7.holds Tryd.pinned (.plain (OpenSpec.ofChange baseReadsSpec)) baseReadsCard

/-- THE TIED CARD OF 'cloaklaw01.BaseBack'. -/
def baseBackCard : Claim7 := { stood := { row := baseBackRow, standIns := [], harness := (true, "f0181c761b16deb11918360954f039669f930c27d51e2fa73aba4c14e15e91ae"), looks := true }, kinds := [], alts := [], laidByText := true, laidKinds := [.data, .data, .data, .sentinel, .sentinel], laidTests := true, laidLooks := .later }
def BaseBackCardSaid : Prop := Claim7.holds Tryd.pinned (.plain (OpenSpec.ofChange baseBackSpec)) baseBackCard

/-- THE TIED CARD OF 'cloaklaw01.BaseTorn'. -/
def baseTornCard : Claim7 := { stood := { row := baseTornRow, standIns := [], harness := (true, "f0181c761b16deb11918360954f039669f930c27d51e2fa73aba4c14e15e91ae"), looks := true }, kinds := [], alts := [], laidByText := true, laidKinds := [.data, .data, .data, .sentinel, .sentinel], laidTests := true, laidLooks := .later }
def BaseTornCardSaid : Prop := Claim7.holds Tryd.pinned (.plain (OpenSpec.ofChange baseTornSpec)) baseTornCard

/-- THE TIED CARD OF 'cloaklaw01.BaseLasts'. -/
def baseLastsCard : Claim7 := { stood := { row := baseLastsRow, standIns := [], harness := (true, "f0181c761b16deb11918360954f039669f930c27d51e2fa73aba4c14e15e91ae"), looks := true }, kinds := [], alts := [], laidByText := true, laidKinds := [.data, .data, .data, .sentinel, .sentinel], laidTests := true, laidLooks := .later }
def BaseLastsCardSaid : Prop := Claim7.holds Tryd.pinned (.plain (OpenSpec.ofChange baseLastsSpec)) baseLastsCard

/-- THE TIED CARD OF 'cloaklaw01.BaseRecovers'. -/
def baseRecoversCard : Claim7 := { stood := { row := baseRecoversRow, standIns := [], harness := (true, "f0181c761b16deb11918360954f039669f930c27d51e2fa73aba4c14e15e91ae"), looks := true }, kinds := [], alts := [], laidByText := true, laidKinds := [.data, .data, .data, .sentinel, .sentinel], laidTests := true, laidLooks := .later }
def BaseRecoversCardSaid : Prop := Claim7.holds Tryd.pinned (.plain (OpenSpec.ofChange baseRecoversSpec)) baseRecoversCard

/-- THE SECOND FORM's CARD OF 'cloaklaw01.BaseWrites'. -/
def baseWritesUptoCard : Claim7 := { stood := { row := baseWritesUptoRow, standIns := [], harness := (true, "f0181c761b16deb11918360954f039669f930c27d51e2fa73aba4c14e15e91ae"), looks := true }, kinds := [], alts := [], laidByText := true, laidKinds := [.data, .data, .data, .sentinel, .sentinel], laidTests := true, laidLooks := .later }
def BaseWritesUptoCardSaid : Prop := Claim7.holds Tryd.pinned (.plain (OpenSpec.upto baseWritesSpec)) baseWritesUptoCard

/-- THE SECOND FORM's CARD OF 'cloaklaw01.BaseAgain'. -/
def baseAgainUptoCard : Claim7 := { stood := { row := baseAgainUptoRow, standIns := [], harness := (true, "f0181c761b16deb11918360954f039669f930c27d51e2fa73aba4c14e15e91ae"), looks := true }, kinds := [], alts := [], laidByText := true, laidKinds := [.data, .data, .data, .sentinel, .sentinel], laidTests := true, laidLooks := .later }
def BaseAgainUptoCardSaid : Prop := Claim7.holds Tryd.pinned (.plain (OpenSpec.upto baseAgainSpec)) baseAgainUptoCard

/-- THE SECOND FORM's CARD OF 'cloaklaw01.BaseNests'. -/
def baseNestsUptoCard : Claim7 := { stood := { row := baseNestsUptoRow, standIns := [], harness := (true, "f0181c761b16deb11918360954f039669f930c27d51e2fa73aba4c14e15e91ae"), looks := true }, kinds := [], alts := [], laidByText := true, laidKinds := [.data, .data, .data, .sentinel, .sentinel], laidTests := true, laidLooks := .later }
def BaseNestsUptoCardSaid : Prop := Claim7.holds Tryd.pinned (.plain (OpenSpec.upto baseNestsSpec)) baseNestsUptoCard

/-- THE SECOND FORM's CARD OF 'cloaklaw01.BaseReads'. -/
def baseReadsUptoCard : Claim7 := { stood := { row := baseReadsUptoRow, standIns := [], harness := (true, "f0181c761b16deb11918360954f039669f930c27d51e2fa73aba4c14e15e91ae"), looks := true }, kinds := [], alts := [], laidByText := true, laidKinds := [.data, .data, .data, .sentinel, .sentinel], laidTests := true, laidLooks := .later }
def BaseReadsUptoCardSaid : Prop := Claim7.holds Tryd.pinned (.plain (OpenSpec.upto baseReadsSpec)) baseReadsUptoCard

/-- THE SECOND FORM's CARD OF 'cloaklaw01.BaseBack'. -/
def baseBackUptoCard : Claim7 := { stood := { row := baseBackUptoRow, standIns := [], harness := (true, "f0181c761b16deb11918360954f039669f930c27d51e2fa73aba4c14e15e91ae"), looks := true }, kinds := [], alts := [], laidByText := true, laidKinds := [.data, .data, .data, .sentinel, .sentinel], laidTests := true, laidLooks := .later }
def BaseBackUptoCardSaid : Prop := Claim7.holds Tryd.pinned (.plain (OpenSpec.upto baseBackSpec)) baseBackUptoCard

/-- THE SECOND FORM's CARD OF 'cloaklaw01.BaseTorn'. -/
def baseTornUptoCard : Claim7 := { stood := { row := baseTornUptoRow, standIns := [], harness := (true, "f0181c761b16deb11918360954f039669f930c27d51e2fa73aba4c14e15e91ae"), looks := true }, kinds := [], alts := [], laidByText := true, laidKinds := [.data, .data, .data, .sentinel, .sentinel], laidTests := true, laidLooks := .later }
def BaseTornUptoCardSaid : Prop := Claim7.holds Tryd.pinned (.plain (OpenSpec.upto baseTornSpec)) baseTornUptoCard

/-- THE SECOND FORM's CARD OF 'cloaklaw01.BaseLasts'. -/
def baseLastsUptoCard : Claim7 := { stood := { row := baseLastsUptoRow, standIns := [], harness := (true, "f0181c761b16deb11918360954f039669f930c27d51e2fa73aba4c14e15e91ae"), looks := true }, kinds := [], alts := [], laidByText := true, laidKinds := [.data, .data, .data, .sentinel, .sentinel], laidTests := true, laidLooks := .later }
def BaseLastsUptoCardSaid : Prop := Claim7.holds Tryd.pinned (.plain (OpenSpec.upto baseLastsSpec)) baseLastsUptoCard

/-- THE SECOND FORM's CARD OF 'cloaklaw01.BaseRecovers'. -/
def baseRecoversUptoCard : Claim7 := { stood := { row := baseRecoversUptoRow, standIns := [], harness := (true, "f0181c761b16deb11918360954f039669f930c27d51e2fa73aba4c14e15e91ae"), looks := true }, kinds := [], alts := [], laidByText := true, laidKinds := [.data, .data, .data, .sentinel, .sentinel], laidTests := true, laidLooks := .later }
def BaseRecoversUptoCardSaid : Prop := Claim7.holds Tryd.pinned (.plain (OpenSpec.upto baseRecoversSpec)) baseRecoversUptoCard
end Rows
end Go.Proofs.YtefjibjojkjiiaaDoor
