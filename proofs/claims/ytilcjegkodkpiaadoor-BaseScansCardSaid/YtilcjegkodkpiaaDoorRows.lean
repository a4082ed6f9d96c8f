/-
  NARROWER THAN 'FOR EVERY INPUT', by the rows' own cells (each row's printed sentence says how): BaseTokens: laid · BaseJoins: laid · BaseErrors: laid · BaseScans: laid · BaseQuotes: laid.
  DERIVED. THE GIVEN ROWS OF THIS SEAT. 5 by the template 'for every input the law returns true; each argument reads behind the call as it read before'; 0 by the template 'total and deterministic' (their statements: YtilcjegkodkpiaaDoorTotals.lean).
  GIVEN WITH THE SEED: the statements are not yours to turn. If you find one false, say at which input.
  Laid BY PROGRAM, IN A SANDBOX (cutbox-rows.mjs): the forced cells as the released guide's own fill.sh prints them over the translation 5d5b3e3b54c1cbaf… (all of the seat's roots in one cut). By AI agents, Wed Nov 11 2026. No macro, syntax, notation, axiom, sorry.
-/
import Derived.Test.YtilcjegkodkpiaaDoorChecked
import GoSem.Claim
import GoSem.ClaimJoined
import GoSem.ClaimMapViews
import Derived.JoinedTies
import Derived.KernelRfl
namespace Go.Proofs.YtilcjegkodkpiaaDoor
/- THE CELL 'sum', in the pinned program and in every row, IS THE sha256 OF THE DUMP (.gsa) THAT YtilcjegkodkpiaaDoorProg.lean LOADS. Nothing in Lean hashes anything: it is a label: what it is worth is what the hold of that sum in a sandbox is worth. -/
noncomputable def Tryd.pinned : Pinned := { name := "ytilcjegkodkpiaadoor", sum := "5d5b3e3b54c1cbaf346006d887d8591bc1737081d96b61302598a3b5bc0d8d2d", checked := Tryd.checked }
namespace Rows
def none {H : Type} : Left H := { results := [], args := [] }

/- WHAT THE LISTED PACKAGE-LEVEL VARIABLES READ AS WHEN THE CALL BEGINS. Each datum BY PROGRAM (the guide's laid-datum.mjs) off the statement by which the dump's own 'gosem.cut.vars' lays the variable. In a bare row this is a premise. The card (YtilcjegkodkpiaaDoorCards.lean) ties it to the program's text. -/
def laid_cloak_base_signs {H : Type} : DataW H := .agg [.lit (.string [46, 46]), .lit (.string [33, 61]), .lit (.string [60, 61]), .lit (.string [62, 61]), .lit (.string [40]), .lit (.string [41]), .lit (.string [123]), .lit (.string [125]), .lit (.string [44]), .lit (.string [59]), .lit (.string [58]), .lit (.string [46]), .lit (.string [61]), .lit (.string [60]), .lit (.string [62]), .lit (.string [43]), .lit (.string [45]), .lit (.string [42]), .lit (.string [47])]

/-- 'cloaklaw01.BaseTokens': WHATEVER THE INPUT: true; the input reads as it did. -/
def baseTokensSpec : ChangeSpec := { name := "baseTokens", fn := fun _ => fun
  | [d] => { results := [.lit (.bool true)], args := [d] }
  | _ => none }
def baseTokensRow : OpenClaim := { program := "ytilcjegkodkpiaadoor", sum := "5d5b3e3b54c1cbaf346006d887d8591bc1737081d96b61302598a3b5bc0d8d2d", func := "cloak/cloaklaw01.BaseTokens", spec := "baseTokens", inPlace := ["internal/abi.NoEscape", "internal/bytealg.MakeNoZero"], unfollowed := true, recurses := true, named := ["cloak/base.signs"], apart := false, laid := [("cloak/base.signs", laid_cloak_base_signs)] }
def BaseTokensSaid : Prop := baseTokensRow.holds Tryd.pinned (OpenSpec.ofChange baseTokensSpec)

/-- ITS FALSE NEIGHBOUR: 'it returns false'. Refute it at one input. -/
def baseTokensWrong : ChangeSpec := { name := "baseTokens", fn := fun _ => fun
  | [d] => { results := [.lit (.bool false)], args := [d] }
  | _ => none }
def BaseTokensWrongFalsely : Prop := baseTokensRow.holds Tryd.pinned (OpenSpec.ofChange baseTokensWrong)

/-- 'cloaklaw01.BaseJoins': WHATEVER THE INPUT: true; the input reads as it did. -/
def baseJoinsSpec : ChangeSpec := { name := "baseJoins", fn := fun _ => fun
  | [d1, d2] => { results := [.lit (.bool true)], args := [d1, d2] }
  | _ => none }
def baseJoinsRow : OpenClaim := { program := "ytilcjegkodkpiaadoor", sum := "5d5b3e3b54c1cbaf346006d887d8591bc1737081d96b61302598a3b5bc0d8d2d", func := "cloak/cloaklaw01.BaseJoins", spec := "baseJoins", inPlace := ["internal/abi.NoEscape", "internal/bytealg.MakeNoZero"], unfollowed := true, recurses := true, named := ["cloak/base.signs"], apart := false, laid := [("cloak/base.signs", laid_cloak_base_signs)] }
def BaseJoinsSaid : Prop := baseJoinsRow.holds Tryd.pinned (OpenSpec.ofChange baseJoinsSpec)

/-- ITS FALSE NEIGHBOUR: 'it returns false'. Refute it at one input. -/
def baseJoinsWrong : ChangeSpec := { name := "baseJoins", fn := fun _ => fun
  | [d1, d2] => { results := [.lit (.bool false)], args := [d1, d2] }
  | _ => none }
def BaseJoinsWrongFalsely : Prop := baseJoinsRow.holds Tryd.pinned (OpenSpec.ofChange baseJoinsWrong)

/-- 'cloaklaw01.BaseErrors': WHATEVER THE INPUT: true; the input reads as it did. -/
def baseErrorsSpec : ChangeSpec := { name := "baseErrors", fn := fun _ => fun
  | [d1, d2] => { results := [.lit (.bool true)], args := [d1, d2] }
  | _ => none }
def baseErrorsRow : OpenClaim := { program := "ytilcjegkodkpiaadoor", sum := "5d5b3e3b54c1cbaf346006d887d8591bc1737081d96b61302598a3b5bc0d8d2d", func := "cloak/cloaklaw01.BaseErrors", spec := "baseErrors", inPlace := ["internal/abi.NoEscape", "internal/bytealg.MakeNoZero"], unfollowed := true, recurses := true, named := ["cloak/base.signs"], apart := false, laid := [("cloak/base.signs", laid_cloak_base_signs)] }
def BaseErrorsSaid : Prop := baseErrorsRow.holds Tryd.pinned (OpenSpec.ofChange baseErrorsSpec)

/-- ITS FALSE NEIGHBOUR: 'it returns false'. Refute it at one input. -/
def baseErrorsWrong : ChangeSpec := { name := "baseErrors", fn := fun _ => fun
  | [d1, d2] => { results := [.lit (.bool false)], args := [d1, d2] }
  | _ => none }
def BaseErrorsWrongFalsely : Prop := baseErrorsRow.holds Tryd.pinned (OpenSpec.ofChange baseErrorsWrong)

/-- 'cloaklaw01.BaseScans': WHATEVER THE INPUT: true; the input reads as it did. -/
def baseScansSpec : ChangeSpec := { name := "baseScans", fn := fun _ => fun
  | [d1, d2] => { results := [.lit (.bool true)], args := [d1, d2] }
  | _ => none }
def baseScansRow : OpenClaim := { program := "ytilcjegkodkpiaadoor", sum := "5d5b3e3b54c1cbaf346006d887d8591bc1737081d96b61302598a3b5bc0d8d2d", func := "cloak/cloaklaw01.BaseScans", spec := "baseScans", inPlace := ["internal/abi.NoEscape", "internal/bytealg.MakeNoZero"], unfollowed := true, recurses := true, named := ["cloak/base.signs"], apart := false, laid := [("cloak/base.signs", laid_cloak_base_signs)] }
def BaseScansSaid : Prop := baseScansRow.holds Tryd.pinned (OpenSpec.ofChange baseScansSpec)

/-- ITS FALSE NEIGHBOUR: 'it returns false'. Refute it at one input. -/
def baseScansWrong : ChangeSpec := { name := "baseScans", fn := fun _ => fun
  | [d1, d2] => { results := [.lit (.bool false)], args := [d1, d2] }
  | _ => none }
def BaseScansWrongFalsely : Prop := baseScansRow.holds Tryd.pinned (OpenSpec.ofChange baseScansWrong)

/-- 'cloaklaw01.BaseQuotes': WHATEVER THE INPUT: true; the input reads as it did. -/
def baseQuotesSpec : ChangeSpec := { name := "baseQuotes", fn := fun _ => fun
  | [d] => { results := [.lit (.bool true)], args := [d] }
  | _ => none }
def baseQuotesRow : OpenClaim := { program := "ytilcjegkodkpiaadoor", sum := "5d5b3e3b54c1cbaf346006d887d8591bc1737081d96b61302598a3b5bc0d8d2d", func := "cloak/cloaklaw01.BaseQuotes", spec := "baseQuotes", inPlace := ["internal/abi.NoEscape", "internal/bytealg.MakeNoZero"], unfollowed := true, recurses := true, named := ["cloak/base.signs"], apart := false, laid := [("cloak/base.signs", laid_cloak_base_signs)] }
def BaseQuotesSaid : Prop := baseQuotesRow.holds Tryd.pinned (OpenSpec.ofChange baseQuotesSpec)

/-- ITS FALSE NEIGHBOUR: 'it returns false'. Refute it at one input. -/
def baseQuotesWrong : ChangeSpec := { name := "baseQuotes", fn := fun _ => fun
  | [d] => { results := [.lit (.bool false)], args := [d] }
  | _ => none }
def BaseQuotesWrongFalsely : Prop := baseQuotesRow.holds Tryd.pinned (OpenSpec.ofChange baseQuotesWrong)

/- THE SECOND FORM. 'bulk': how many values and letters a reading holds, each counted each time it is reached (what is shared counts as often as it is met; a slice's spare places count too). A statement '..UptoSaid' is the law's where the arguments, and the package variables that the reading takes, are together of bulk at most 1048576: NARROWER than '..Said'. Prove '..Said' where nothing that the law and all that it calls make is longer than what came in: it says more and counts as full. Else prove '..UptoSaid'. A law counts once. -/
mutual
def uptoBulk {H : Type} : DataW H → Nat
  | .lit (.string bytes) => bytes.length + 1
  | .lit _ => 1
  | .nil => 1
  | .ptr d => uptoBulk d + 1
  | .slice elems spare => uptoBulkAll elems + uptoBulkAll spare + 1
  | .agg parts => uptoBulkAll parts + 1
  | .iface _ d => uptoBulk d + 1
  | .map entries => uptoBulkEntries entries + 1
  | .held _ => 1
def uptoBulkAll {H : Type} : List (DataW H) → Nat
  | [] => 0
  | d :: r => uptoBulk d + uptoBulkAll r
def uptoBulkEntries {H : Type} : List (Lit × DataW H) → Nat
  | [] => 0
  | x :: r => uptoBulkEntry x + uptoBulkEntries r
def uptoBulkEntry {H : Type} : Lit × DataW H → Nat
  | (.string bytes, d) => bytes.length + uptoBulk d + 1
  | (_, d) => uptoBulk d + 1
 end
def uptoSmall : (H : Type) → List (DataW H) → Bool := fun _ ds => decide (uptoBulkAll ds ≤ 1048576)
def OpenSpec.upto (s : _root_.Go.ChangeSpec) : _root_.Go.OpenSpec := { _root_.Go.OpenSpec.ofChange s with cond := some uptoSmall }

/-- 'cloaklaw01.BaseTokens', WHERE WHAT IT READS IS OF BULK AT MOST 1048576: true; the input reads as it did. -/
def baseTokensUptoRow : OpenClaim := { program := "ytilcjegkodkpiaadoor", sum := "5d5b3e3b54c1cbaf346006d887d8591bc1737081d96b61302598a3b5bc0d8d2d", func := "cloak/cloaklaw01.BaseTokens", spec := "baseTokens", inPlace := ["internal/abi.NoEscape", "internal/bytealg.MakeNoZero"], unfollowed := true, recurses := true, named := ["cloak/base.signs"], apart := false, laid := [("cloak/base.signs", laid_cloak_base_signs)], narrowed := true }
def BaseTokensUptoSaid : Prop := baseTokensUptoRow.holds Tryd.pinned (OpenSpec.upto baseTokensSpec)

/-- 'cloaklaw01.BaseJoins', WHERE WHAT IT READS IS OF BULK AT MOST 1048576: true; the input reads as it did. -/
def baseJoinsUptoRow : OpenClaim := { program := "ytilcjegkodkpiaadoor", sum := "5d5b3e3b54c1cbaf346006d887d8591bc1737081d96b61302598a3b5bc0d8d2d", func := "cloak/cloaklaw01.BaseJoins", spec := "baseJoins", inPlace := ["internal/abi.NoEscape", "internal/bytealg.MakeNoZero"], unfollowed := true, recurses := true, named := ["cloak/base.signs"], apart := false, laid := [("cloak/base.signs", laid_cloak_base_signs)], narrowed := true }
def BaseJoinsUptoSaid : Prop := baseJoinsUptoRow.holds Tryd.pinned (OpenSpec.upto baseJoinsSpec)

/-- 'cloaklaw01.BaseErrors', WHERE WHAT IT READS IS OF BULK AT MOST 1048576: true; the input reads as it did. -/
def baseErrorsUptoRow : OpenClaim := { program := "ytilcjegkodkpiaadoor", sum := "5d5b3e3b54c1cbaf346006d887d8591bc1737081d96b61302598a3b5bc0d8d2d", func := "cloak/cloaklaw01.BaseErrors", spec := "baseErrors", inPlace := ["internal/abi.NoEscape", "internal/bytealg.MakeNoZero"], unfollowed := true, recurses := true, named := ["cloak/base.signs"], apart := false, laid := [("cloak/base.signs", laid_cloak_base_signs)], narrowed := true }
def BaseErrorsUptoSaid : Prop := baseErrorsUptoRow.holds Tryd.pinned (OpenSpec.upto baseErrorsSpec)

/-- 'cloaklaw01.BaseScans', WHERE WHAT IT READS IS OF BULK AT MOST 1048576: true; the input reads as it did. -/
def baseScansUptoRow : OpenClaim := { program := "ytilcjegkodkpiaadoor", sum := "5d5b3e3b54c1cbaf346006d887d8591bc1737081d96b61302598a3b5bc0d8d2d", func := "cloak/cloaklaw01.BaseScans", spec := "baseScans", inPlace := ["internal/abi.NoEscape", "internal/bytealg.MakeNoZero"], unfollowed := true, recurses := true, named := ["cloak/base.signs"], apart := false, laid := [("cloak/base.signs", laid_cloak_base_signs)], narrowed := true }
def BaseScansUptoSaid : Prop := baseScansUptoRow.holds Tryd.pinned (OpenSpec.upto baseScansSpec)

/-- 'cloaklaw01.BaseQuotes', WHERE WHAT IT READS IS OF BULK AT MOST 1048576: true; the input reads as it did. -/
def baseQuotesUptoRow : OpenClaim := { program := "ytilcjegkodkpiaadoor", sum := "5d5b3e3b54c1cbaf346006d887d8591bc1737081d96b61302598a3b5bc0d8d2d", func := "cloak/cloaklaw01.BaseQuotes", spec := "baseQuotes", inPlace := ["internal/abi.NoEscape", "internal/bytealg.MakeNoZero"], unfollowed := true, recurses := true, named := ["cloak/base.signs"], apart := false, laid := [("cloak/base.signs", laid_cloak_base_signs)], narrowed := true }
def BaseQuotesUptoSaid : Prop := baseQuotesUptoRow.holds Tryd.pinned (OpenSpec.upto baseQuotesSpec)

end Rows
end Go.Proofs.YtilcjegkodkpiaaDoor
