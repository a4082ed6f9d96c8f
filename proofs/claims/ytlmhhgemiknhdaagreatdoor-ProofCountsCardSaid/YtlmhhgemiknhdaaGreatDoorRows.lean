/-
  NARROWER THAN 'FOR EVERY INPUT', by the rows' own cells (each row's printed sentence says how): ProofTells: laid · ProofComplete: laid · ProofWitness: laid · ProofEqual: laid · ProofShape: laid · ProofOpens: laid · ProofSigns: laid · ProofEncodes: laid · ProofTools: laid · ProofCounts: laid · ProofRanges: laid.
  DERIVED. THE GIVEN ROWS OF THIS SEAT. 11 by the template 'for every input the law returns true; each argument reads behind the call as it read before'; 0 by the template 'total and deterministic' (their statements: YtlmhhgemiknhdaaGreatDoorTotals.lean).
  GIVEN WITH THE SEED: the statements are not yours to turn. If you find one false, say at which input.
  Laid BY PROGRAM, IN A SANDBOX (cutbox-rows.mjs): the forced cells as the released guide's own fill.sh prints them over the translation df1385b9f0b096c7… (all of the seat's roots in one cut). By AI agents, Wed Nov 11 2026. No macro, syntax, notation, axiom, sorry.
-/
import Derived.Test.YtlmhhgemiknhdaaGreatDoorChecked
import GoSem.Claim
import GoSem.ClaimJoined
import GoSem.ClaimMapViews
import Derived.JoinedTies
import Derived.KernelRfl
namespace Go.Proofs.YtlmhhgemiknhdaaGreatDoor
/- THE CELL 'sum', in the pinned program and in every row, IS THE sha256 OF THE DUMP (.gsa) THAT YtlmhhgemiknhdaaGreatDoorProg.lean LOADS. Nothing in Lean hashes anything: it is a label: what it is worth is what the hold of that sum in a sandbox is worth. -/
noncomputable def Tryz.pinned : Pinned := { name := "ytlmhhgemiknhdaagreatdoor", sum := "df1385b9f0b096c79beff6a7a02ad9683215843947eb8d6623e15d57dad10a1e", checked := Tryz.checked }
namespace Rows
def none {H : Type} : Left H := { results := [], args := [] }

/- WHAT THE LISTED PACKAGE-LEVEL VARIABLES READ AS WHEN THE CALL BEGINS. Each datum BY PROGRAM (the guide's laid-datum.mjs) off the statement by which the dump's own 'gosem.cut.vars' lays the variable. In a bare row this is a premise. The card (YtlmhhgemiknhdaaGreatDoorCards.lean) ties it to the program's text. -/
def laid_math_bits_deBruijn32tab {H : Type} : DataW H := .agg [.lit (.int .u8 0), .lit (.int .u8 1), .lit (.int .u8 28), .lit (.int .u8 2), .lit (.int .u8 29), .lit (.int .u8 14), .lit (.int .u8 24), .lit (.int .u8 3), .lit (.int .u8 30), .lit (.int .u8 22), .lit (.int .u8 20), .lit (.int .u8 15), .lit (.int .u8 25), .lit (.int .u8 17), .lit (.int .u8 4), .lit (.int .u8 8), .lit (.int .u8 31), .lit (.int .u8 27), .lit (.int .u8 13), .lit (.int .u8 23), .lit (.int .u8 21), .lit (.int .u8 19), .lit (.int .u8 16), .lit (.int .u8 7), .lit (.int .u8 26), .lit (.int .u8 12), .lit (.int .u8 18), .lit (.int .u8 6), .lit (.int .u8 11), .lit (.int .u8 5), .lit (.int .u8 10), .lit (.int .u8 9)]
def laid_math_bits_deBruijn64tab {H : Type} : DataW H := .agg [.lit (.int .u8 0), .lit (.int .u8 1), .lit (.int .u8 56), .lit (.int .u8 2), .lit (.int .u8 57), .lit (.int .u8 49), .lit (.int .u8 28), .lit (.int .u8 3), .lit (.int .u8 61), .lit (.int .u8 58), .lit (.int .u8 42), .lit (.int .u8 50), .lit (.int .u8 38), .lit (.int .u8 29), .lit (.int .u8 17), .lit (.int .u8 4), .lit (.int .u8 62), .lit (.int .u8 47), .lit (.int .u8 59), .lit (.int .u8 36), .lit (.int .u8 45), .lit (.int .u8 43), .lit (.int .u8 51), .lit (.int .u8 22), .lit (.int .u8 53), .lit (.int .u8 39), .lit (.int .u8 33), .lit (.int .u8 30), .lit (.int .u8 24), .lit (.int .u8 18), .lit (.int .u8 12), .lit (.int .u8 5), .lit (.int .u8 63), .lit (.int .u8 55), .lit (.int .u8 48), .lit (.int .u8 27), .lit (.int .u8 60), .lit (.int .u8 41), .lit (.int .u8 37), .lit (.int .u8 16), .lit (.int .u8 46), .lit (.int .u8 35), .lit (.int .u8 44), .lit (.int .u8 21), .lit (.int .u8 52), .lit (.int .u8 32), .lit (.int .u8 23), .lit (.int .u8 11), .lit (.int .u8 54), .lit (.int .u8 26), .lit (.int .u8 40), .lit (.int .u8 15), .lit (.int .u8 34), .lit (.int .u8 20), .lit (.int .u8 31), .lit (.int .u8 10), .lit (.int .u8 25), .lit (.int .u8 14), .lit (.int .u8 19), .lit (.int .u8 9), .lit (.int .u8 13), .lit (.int .u8 8), .lit (.int .u8 7), .lit (.int .u8 6)]
def laid_internal_strconv_uint64pow10 {H : Type} : DataW H := .agg [.lit (.int .u64 1), .lit (.int .u64 10), .lit (.int .u64 100), .lit (.int .u64 1000), .lit (.int .u64 10000), .lit (.int .u64 100000), .lit (.int .u64 1000000), .lit (.int .u64 10000000), .lit (.int .u64 100000000), .lit (.int .u64 1000000000), .lit (.int .u64 10000000000), .lit (.int .u64 100000000000), .lit (.int .u64 1000000000000), .lit (.int .u64 10000000000000), .lit (.int .u64 100000000000000), .lit (.int .u64 1000000000000000), .lit (.int .u64 10000000000000000), .lit (.int .u64 100000000000000000), .lit (.int .u64 1000000000000000000), .lit (.int .u64 10000000000000000000)]
def laid_strconv_ErrRange {H : Type} : DataW H := .iface "*errors.errorString" (.ptr (.agg [.lit (.string [118, 97, 108, 117, 101, 32, 111, 117, 116, 32, 111, 102, 32, 114, 97, 110, 103, 101])]))
def laid_strconv_ErrSyntax {H : Type} : DataW H := .iface "*errors.errorString" (.ptr (.agg [.lit (.string [105, 110, 118, 97, 108, 105, 100, 32, 115, 121, 110, 116, 97, 120])]))

/-- 'cloaklaw03.ProofTells': WHATEVER THE INPUT: true; the input reads as it did. -/
def proofTellsSpec : ChangeSpec := { name := "proofTells", fn := fun _ => fun
  | [d1, d2, d3, d4, d5, d6] => { results := [.lit (.bool true)], args := [d1, d2, d3, d4, d5, d6] }
  | _ => none }
def proofTellsRow : OpenClaim := { program := "ytlmhhgemiknhdaagreatdoor", sum := "df1385b9f0b096c79beff6a7a02ad9683215843947eb8d6623e15d57dad10a1e", func := "cloak/cloaklaw03.ProofTells", spec := "proofTells", inPlace := ["internal/abi.NoEscape"], unfollowed := true, recurses := true, named := ["math/bits.deBruijn64tab", "math/bits.divideError", "math/bits.overflowError", "internal/strconv.uint64pow10", "math/bits.deBruijn32tab"], apart := false, laid := [("math/bits.deBruijn32tab", laid_math_bits_deBruijn32tab), ("math/bits.deBruijn64tab", laid_math_bits_deBruijn64tab), ("internal/strconv.uint64pow10", laid_internal_strconv_uint64pow10)] }
def ProofTellsSaid : Prop := proofTellsRow.holds Tryz.pinned (OpenSpec.ofChange proofTellsSpec)

/-- ITS FALSE NEIGHBOUR: 'it returns false'. Refute it at one input. -/
def proofTellsWrong : ChangeSpec := { name := "proofTells", fn := fun _ => fun
  | [d1, d2, d3, d4, d5, d6] => { results := [.lit (.bool false)], args := [d1, d2, d3, d4, d5, d6] }
  | _ => none }
def ProofTellsWrongFalsely : Prop := proofTellsRow.holds Tryz.pinned (OpenSpec.ofChange proofTellsWrong)

/-- 'cloaklaw03.ProofComplete': WHATEVER THE INPUT: true; the input reads as it did. -/
def proofCompleteSpec : ChangeSpec := { name := "proofComplete", fn := fun _ => fun
  | [d1, d2, d3, d4, d5] => { results := [.lit (.bool true)], args := [d1, d2, d3, d4, d5] }
  | _ => none }
def proofCompleteRow : OpenClaim := { program := "ytlmhhgemiknhdaagreatdoor", sum := "df1385b9f0b096c79beff6a7a02ad9683215843947eb8d6623e15d57dad10a1e", func := "cloak/cloaklaw03.ProofComplete", spec := "proofComplete", inPlace := ["internal/abi.NoEscape"], unfollowed := true, recurses := true, named := ["math/bits.deBruijn64tab", "math/bits.divideError", "math/bits.overflowError", "internal/strconv.uint64pow10", "math/bits.deBruijn32tab"], apart := false, laid := [("math/bits.deBruijn32tab", laid_math_bits_deBruijn32tab), ("math/bits.deBruijn64tab", laid_math_bits_deBruijn64tab), ("internal/strconv.uint64pow10", laid_internal_strconv_uint64pow10)] }
def ProofCompleteSaid : Prop := proofCompleteRow.holds Tryz.pinned (OpenSpec.ofChange proofCompleteSpec)

/-- ITS FALSE NEIGHBOUR: 'it returns false'. Refute it at one input. -/
def proofCompleteWrong : ChangeSpec := { name := "proofComplete", fn := fun _ => fun
  | [d1, d2, d3, d4, d5] => { results := [.lit (.bool false)], args := [d1, d2, d3, d4, d5] }
  | _ => none }
def ProofCompleteWrongFalsely : Prop := proofCompleteRow.holds Tryz.pinned (OpenSpec.ofChange proofCompleteWrong)

/-- 'cloaklaw03.ProofWitness': WHATEVER THE INPUT: true; the input reads as it did. -/
def proofWitnessSpec : ChangeSpec := { name := "proofWitness", fn := fun _ => fun
  | [d1, d2, d3, d4, d5, d6, d7] => { results := [.lit (.bool true)], args := [d1, d2, d3, d4, d5, d6, d7] }
  | _ => none }
def proofWitnessRow : OpenClaim := { program := "ytlmhhgemiknhdaagreatdoor", sum := "df1385b9f0b096c79beff6a7a02ad9683215843947eb8d6623e15d57dad10a1e", func := "cloak/cloaklaw03.ProofWitness", spec := "proofWitness", inPlace := ["internal/abi.NoEscape"], unfollowed := true, recurses := true, named := ["math/bits.deBruijn64tab", "math/bits.divideError", "math/bits.overflowError", "internal/strconv.uint64pow10", "math/bits.deBruijn32tab"], apart := false, laid := [("math/bits.deBruijn32tab", laid_math_bits_deBruijn32tab), ("math/bits.deBruijn64tab", laid_math_bits_deBruijn64tab), ("internal/strconv.uint64pow10", laid_internal_strconv_uint64pow10)] }
def ProofWitnessSaid : Prop := proofWitnessRow.holds Tryz.pinned (OpenSpec.ofChange proofWitnessSpec)

/-- ITS FALSE NEIGHBOUR: 'it returns false'. Refute it at one input. -/
def proofWitnessWrong : ChangeSpec := { name := "proofWitness", fn := fun _ => fun
  | [d1, d2, d3, d4, d5, d6, d7] => { results := [.lit (.bool false)], args := [d1, d2, d3, d4, d5, d6, d7] }
  | _ => none }
def ProofWitnessWrongFalsely : Prop := proofWitnessRow.holds Tryz.pinned (OpenSpec.ofChange proofWitnessWrong)

/-- 'cloaklaw03.ProofEqual': WHATEVER THE INPUT: true; the input reads as it did. -/
def proofEqualSpec : ChangeSpec := { name := "proofEqual", fn := fun _ => fun
  | [d1, d2, d3, d4, d5, d6] => { results := [.lit (.bool true)], args := [d1, d2, d3, d4, d5, d6] }
  | _ => none }
def proofEqualRow : OpenClaim := { program := "ytlmhhgemiknhdaagreatdoor", sum := "df1385b9f0b096c79beff6a7a02ad9683215843947eb8d6623e15d57dad10a1e", func := "cloak/cloaklaw03.ProofEqual", spec := "proofEqual", inPlace := ["internal/abi.NoEscape"], unfollowed := true, recurses := true, named := ["math/bits.deBruijn64tab", "math/bits.divideError", "math/bits.overflowError", "internal/strconv.uint64pow10", "math/bits.deBruijn32tab"], apart := false, laid := [("math/bits.deBruijn32tab", laid_math_bits_deBruijn32tab), ("math/bits.deBruijn64tab", laid_math_bits_deBruijn64tab), ("internal/strconv.uint64pow10", laid_internal_strconv_uint64pow10)] }
def ProofEqualSaid : Prop := proofEqualRow.holds Tryz.pinned (OpenSpec.ofChange proofEqualSpec)

/-- ITS FALSE NEIGHBOUR: 'it returns false'. Refute it at one input. -/
def proofEqualWrong : ChangeSpec := { name := "proofEqual", fn := fun _ => fun
  | [d1, d2, d3, d4, d5, d6] => { results := [.lit (.bool false)], args := [d1, d2, d3, d4, d5, d6] }
  | _ => none }
def ProofEqualWrongFalsely : Prop := proofEqualRow.holds Tryz.pinned (OpenSpec.ofChange proofEqualWrong)

/-- 'cloaklaw03.ProofShape': WHATEVER THE INPUT: true; the input reads as it did. -/
def proofShapeSpec : ChangeSpec := { name := "proofShape", fn := fun _ => fun
  | [d1, d2, d3, d4, d5, d6, d7, d8, d9] => { results := [.lit (.bool true)], args := [d1, d2, d3, d4, d5, d6, d7, d8, d9] }
  | _ => none }
def proofShapeRow : OpenClaim := { program := "ytlmhhgemiknhdaagreatdoor", sum := "df1385b9f0b096c79beff6a7a02ad9683215843947eb8d6623e15d57dad10a1e", func := "cloak/cloaklaw03.ProofShape", spec := "proofShape", inPlace := ["internal/abi.NoEscape"], unfollowed := true, recurses := true, named := ["math/bits.deBruijn64tab", "math/bits.divideError", "math/bits.overflowError", "internal/strconv.uint64pow10", "math/bits.deBruijn32tab"], apart := false, laid := [("math/bits.deBruijn32tab", laid_math_bits_deBruijn32tab), ("math/bits.deBruijn64tab", laid_math_bits_deBruijn64tab), ("internal/strconv.uint64pow10", laid_internal_strconv_uint64pow10)] }
def ProofShapeSaid : Prop := proofShapeRow.holds Tryz.pinned (OpenSpec.ofChange proofShapeSpec)

/-- ITS FALSE NEIGHBOUR: 'it returns false'. Refute it at one input. -/
def proofShapeWrong : ChangeSpec := { name := "proofShape", fn := fun _ => fun
  | [d1, d2, d3, d4, d5, d6, d7, d8, d9] => { results := [.lit (.bool false)], args := [d1, d2, d3, d4, d5, d6, d7, d8, d9] }
  | _ => none }
def ProofShapeWrongFalsely : Prop := proofShapeRow.holds Tryz.pinned (OpenSpec.ofChange proofShapeWrong)

/-- 'cloaklaw03.ProofOpens': WHATEVER THE INPUT: true; the input reads as it did. -/
def proofOpensSpec : ChangeSpec := { name := "proofOpens", fn := fun _ => fun
  | [d1, d2, d3, d4, d5] => { results := [.lit (.bool true)], args := [d1, d2, d3, d4, d5] }
  | _ => none }
def proofOpensRow : OpenClaim := { program := "ytlmhhgemiknhdaagreatdoor", sum := "df1385b9f0b096c79beff6a7a02ad9683215843947eb8d6623e15d57dad10a1e", func := "cloak/cloaklaw03.ProofOpens", spec := "proofOpens", inPlace := ["internal/abi.NoEscape", "internal/bytealg.IndexByteString"], unfollowed := true, recurses := true, named := ["math/bits.deBruijn64tab", "math/bits.divideError", "math/bits.overflowError", "internal/strconv.uint64pow10", "math/bits.deBruijn32tab", "strconv.ErrSyntax", "strconv.ErrRange"], apart := false, laid := [("math/bits.deBruijn32tab", laid_math_bits_deBruijn32tab), ("math/bits.deBruijn64tab", laid_math_bits_deBruijn64tab), ("internal/strconv.uint64pow10", laid_internal_strconv_uint64pow10), ("strconv.ErrRange", laid_strconv_ErrRange), ("strconv.ErrSyntax", laid_strconv_ErrSyntax)] }
def ProofOpensSaid : Prop := proofOpensRow.holds Tryz.pinned (OpenSpec.ofChange proofOpensSpec)

/-- ITS FALSE NEIGHBOUR: 'it returns false'. Refute it at one input. -/
def proofOpensWrong : ChangeSpec := { name := "proofOpens", fn := fun _ => fun
  | [d1, d2, d3, d4, d5] => { results := [.lit (.bool false)], args := [d1, d2, d3, d4, d5] }
  | _ => none }
def ProofOpensWrongFalsely : Prop := proofOpensRow.holds Tryz.pinned (OpenSpec.ofChange proofOpensWrong)

/-- 'cloaklaw03.ProofSigns': WHATEVER THE INPUT: true; the input reads as it did. -/
def proofSignsSpec : ChangeSpec := { name := "proofSigns", fn := fun _ => fun
  | [d1, d2, d3, d4, d5] => { results := [.lit (.bool true)], args := [d1, d2, d3, d4, d5] }
  | _ => none }
def proofSignsRow : OpenClaim := { program := "ytlmhhgemiknhdaagreatdoor", sum := "df1385b9f0b096c79beff6a7a02ad9683215843947eb8d6623e15d57dad10a1e", func := "cloak/cloaklaw03.ProofSigns", spec := "proofSigns", inPlace := ["internal/abi.NoEscape", "internal/bytealg.IndexByteString"], unfollowed := true, recurses := true, named := ["math/bits.deBruijn64tab", "math/bits.divideError", "math/bits.overflowError", "internal/strconv.uint64pow10", "math/bits.deBruijn32tab", "strconv.ErrSyntax", "strconv.ErrRange"], apart := false, laid := [("math/bits.deBruijn32tab", laid_math_bits_deBruijn32tab), ("math/bits.deBruijn64tab", laid_math_bits_deBruijn64tab), ("internal/strconv.uint64pow10", laid_internal_strconv_uint64pow10), ("strconv.ErrRange", laid_strconv_ErrRange), ("strconv.ErrSyntax", laid_strconv_ErrSyntax)] }
def ProofSignsSaid : Prop := proofSignsRow.holds Tryz.pinned (OpenSpec.ofChange proofSignsSpec)

/-- ITS FALSE NEIGHBOUR: 'it returns false'. Refute it at one input. -/
def proofSignsWrong : ChangeSpec := { name := "proofSigns", fn := fun _ => fun
  | [d1, d2, d3, d4, d5] => { results := [.lit (.bool false)], args := [d1, d2, d3, d4, d5] }
  | _ => none }
def ProofSignsWrongFalsely : Prop := proofSignsRow.holds Tryz.pinned (OpenSpec.ofChange proofSignsWrong)

/-- 'cloaklaw03.ProofEncodes': WHATEVER THE INPUT: true; the input reads as it did. -/
def proofEncodesSpec : ChangeSpec := { name := "proofEncodes", fn := fun _ => fun
  | [d1, d2, d3, d4] => { results := [.lit (.bool true)], args := [d1, d2, d3, d4] }
  | _ => none }
def proofEncodesRow : OpenClaim := { program := "ytlmhhgemiknhdaagreatdoor", sum := "df1385b9f0b096c79beff6a7a02ad9683215843947eb8d6623e15d57dad10a1e", func := "cloak/cloaklaw03.ProofEncodes", spec := "proofEncodes", inPlace := ["internal/abi.NoEscape", "internal/bytealg.IndexByteString"], unfollowed := true, recurses := true, named := ["math/bits.deBruijn64tab", "math/bits.divideError", "math/bits.overflowError", "internal/strconv.uint64pow10", "math/bits.deBruijn32tab", "strconv.ErrSyntax", "strconv.ErrRange"], apart := false, laid := [("math/bits.deBruijn32tab", laid_math_bits_deBruijn32tab), ("math/bits.deBruijn64tab", laid_math_bits_deBruijn64tab), ("internal/strconv.uint64pow10", laid_internal_strconv_uint64pow10), ("strconv.ErrRange", laid_strconv_ErrRange), ("strconv.ErrSyntax", laid_strconv_ErrSyntax)] }
def ProofEncodesSaid : Prop := proofEncodesRow.holds Tryz.pinned (OpenSpec.ofChange proofEncodesSpec)

/-- ITS FALSE NEIGHBOUR: 'it returns false'. Refute it at one input. -/
def proofEncodesWrong : ChangeSpec := { name := "proofEncodes", fn := fun _ => fun
  | [d1, d2, d3, d4] => { results := [.lit (.bool false)], args := [d1, d2, d3, d4] }
  | _ => none }
def ProofEncodesWrongFalsely : Prop := proofEncodesRow.holds Tryz.pinned (OpenSpec.ofChange proofEncodesWrong)

/-- 'cloaklaw03.ProofTools': WHATEVER THE INPUT: true; the input reads as it did. -/
def proofToolsSpec : ChangeSpec := { name := "proofTools", fn := fun _ => fun
  | [d1, d2, d3, d4, d5, d6, d7, d8, d9, d10, d11] => { results := [.lit (.bool true)], args := [d1, d2, d3, d4, d5, d6, d7, d8, d9, d10, d11] }
  | _ => none }
def proofToolsRow : OpenClaim := { program := "ytlmhhgemiknhdaagreatdoor", sum := "df1385b9f0b096c79beff6a7a02ad9683215843947eb8d6623e15d57dad10a1e", func := "cloak/cloaklaw03.ProofTools", spec := "proofTools", inPlace := ["internal/abi.NoEscape", "internal/bytealg.IndexByteString"], unfollowed := true, recurses := true, named := ["math/bits.deBruijn64tab", "math/bits.divideError", "math/bits.overflowError", "internal/strconv.uint64pow10", "math/bits.deBruijn32tab", "strconv.ErrSyntax", "strconv.ErrRange"], apart := false, laid := [("math/bits.deBruijn32tab", laid_math_bits_deBruijn32tab), ("math/bits.deBruijn64tab", laid_math_bits_deBruijn64tab), ("internal/strconv.uint64pow10", laid_internal_strconv_uint64pow10), ("strconv.ErrRange", laid_strconv_ErrRange), ("strconv.ErrSyntax", laid_strconv_ErrSyntax)] }
def ProofToolsSaid : Prop := proofToolsRow.holds Tryz.pinned (OpenSpec.ofChange proofToolsSpec)

/-- ITS FALSE NEIGHBOUR: 'it returns false'. Refute it at one input. -/
def proofToolsWrong : ChangeSpec := { name := "proofTools", fn := fun _ => fun
  | [d1, d2, d3, d4, d5, d6, d7, d8, d9, d10, d11] => { results := [.lit (.bool false)], args := [d1, d2, d3, d4, d5, d6, d7, d8, d9, d10, d11] }
  | _ => none }
def ProofToolsWrongFalsely : Prop := proofToolsRow.holds Tryz.pinned (OpenSpec.ofChange proofToolsWrong)

/-- 'cloaklaw03.ProofCounts': WHATEVER THE INPUT: true; the input reads as it did. -/
def proofCountsSpec : ChangeSpec := { name := "proofCounts", fn := fun _ => fun
  | [d1, d2] => { results := [.lit (.bool true)], args := [d1, d2] }
  | _ => none }
def proofCountsRow : OpenClaim := { program := "ytlmhhgemiknhdaagreatdoor", sum := "df1385b9f0b096c79beff6a7a02ad9683215843947eb8d6623e15d57dad10a1e", func := "cloak/cloaklaw03.ProofCounts", spec := "proofCounts", inPlace := ["internal/abi.NoEscape", "internal/bytealg.IndexByteString"], unfollowed := true, recurses := true, named := ["math/bits.deBruijn64tab", "math/bits.divideError", "math/bits.overflowError", "internal/strconv.uint64pow10", "math/bits.deBruijn32tab", "strconv.ErrSyntax", "strconv.ErrRange"], apart := false, laid := [("math/bits.deBruijn32tab", laid_math_bits_deBruijn32tab), ("math/bits.deBruijn64tab", laid_math_bits_deBruijn64tab), ("internal/strconv.uint64pow10", laid_internal_strconv_uint64pow10), ("strconv.ErrRange", laid_strconv_ErrRange), ("strconv.ErrSyntax", laid_strconv_ErrSyntax)] }
def ProofCountsSaid : Prop := proofCountsRow.holds Tryz.pinned (OpenSpec.ofChange proofCountsSpec)

/-- ITS FALSE NEIGHBOUR: 'it returns false'. Refute it at one input. -/
def proofCountsWrong : ChangeSpec := { name := "proofCounts", fn := fun _ => fun
  | [d1, d2] => { results := [.lit (.bool false)], args := [d1, d2] }
  | _ => none }
def ProofCountsWrongFalsely : Prop := proofCountsRow.holds Tryz.pinned (OpenSpec.ofChange proofCountsWrong)

/-- 'cloaklaw03.ProofRanges': WHATEVER THE INPUT: true; the input reads as it did. -/
def proofRangesSpec : ChangeSpec := { name := "proofRanges", fn := fun _ => fun
  | [d1, d2, d3, d4, d5] => { results := [.lit (.bool true)], args := [d1, d2, d3, d4, d5] }
  | _ => none }
def proofRangesRow : OpenClaim := { program := "ytlmhhgemiknhdaagreatdoor", sum := "df1385b9f0b096c79beff6a7a02ad9683215843947eb8d6623e15d57dad10a1e", func := "cloak/cloaklaw03.ProofRanges", spec := "proofRanges", inPlace := ["internal/abi.NoEscape", "internal/bytealg.IndexByteString"], unfollowed := true, recurses := true, named := ["math/bits.deBruijn64tab", "math/bits.divideError", "math/bits.overflowError", "internal/strconv.uint64pow10", "math/bits.deBruijn32tab", "strconv.ErrSyntax", "strconv.ErrRange"], apart := false, laid := [("math/bits.deBruijn32tab", laid_math_bits_deBruijn32tab), ("math/bits.deBruijn64tab", laid_math_bits_deBruijn64tab), ("internal/strconv.uint64pow10", laid_internal_strconv_uint64pow10), ("strconv.ErrRange", laid_strconv_ErrRange), ("strconv.ErrSyntax", laid_strconv_ErrSyntax)] }
def ProofRangesSaid : Prop := proofRangesRow.holds Tryz.pinned (OpenSpec.ofChange proofRangesSpec)

/-- ITS FALSE NEIGHBOUR: 'it returns false'. Refute it at one input. -/
def proofRangesWrong : ChangeSpec := { name := "proofRanges", fn := fun _ => fun
  | [d1, d2, d3, d4, d5] => { results := [.lit (.bool false)], args := [d1, d2, d3, d4, d5] }
  | _ => none }
def ProofRangesWrongFalsely : Prop := proofRangesRow.holds Tryz.pinned (OpenSpec.ofChange proofRangesWrong)

/- THE SECOND FORM. 'bulk': how many values and letters a reading holds, each counted each time it is reached (what is shared counts as often as it is met; a slice's spare places count too). A statement '..UptoSaid' is the law's where the arguments, and the package variables that the reading takes, are together of bulk at most 1048576: NARROWER than '..Said'. Prove '..Said' where nothing that the law and all that it calls make is longer than what came in: it says more and counts as full. Else prove '..UptoSaid'. A law counts once. -/
mutual
def uptoBulk {H : Type} : DataW H → Nat
  | .lit (.string bytes) => bytes.length + 1
  | .lit _ => 1
  | .nil => 1
  | .ptr d => uptoBulk d + 1
  | .slice elems spare => uptoBulkAll elems + uptoBulkAll spare + 1
  | .agg parts => uptoBulkAll parts + 1
  | .iface _ d => uptoBulk d + 1
  | .map entries => uptoBulkEntries entries + 1
  | .held _ => 1
def uptoBulkAll {H : Type} : List (DataW H) → Nat
  | [] => 0
  | d :: r => uptoBulk d + uptoBulkAll r
def uptoBulkEntries {H : Type} : List (Lit × DataW H) → Nat
  | [] => 0
  | x :: r => uptoBulkEntry x + uptoBulkEntries r
def uptoBulkEntry {H : Type} : Lit × DataW H → Nat
  | (.string bytes, d) => bytes.length + uptoBulk d + 1
  | (_, d) => uptoBulk d + 1
 end
def uptoSmall : (H : Type) → List (DataW H) → Bool := fun _ ds => decide (uptoBulkAll ds ≤ 1048576)
def OpenSpec.upto (s : _root_.Go.ChangeSpec) : _root_.Go.OpenSpec := { _root_.Go.OpenSpec.ofChange s with cond := some uptoSmall }

/-- 'cloaklaw03.ProofTells', WHERE WHAT IT READS IS OF BULK AT MOST 1048576: true; the input reads as it did. -/
def proofTellsUptoRow : OpenClaim := { program := "ytlmhhgemiknhdaagreatdoor", sum := "df1385b9f0b096c79beff6a7a02ad9683215843947eb8d6623e15d57dad10a1e", func := "cloak/cloaklaw03.ProofTells", spec := "proofTells", inPlace := ["internal/abi.NoEscape"], unfollowed := true, recurses := true, named := ["math/bits.deBruijn64tab", "math/bits.divideError", "math/bits.overflowError", "internal/strconv.uint64pow10", "math/bits.deBruijn32tab"], apart := false, laid := [("math/bits.deBruijn32tab", laid_math_bits_deBruijn32tab), ("math/bits.deBruijn64tab", laid_math_bits_deBruijn64tab), ("internal/strconv.uint64pow10", laid_internal_strconv_uint64pow10)], narrowed := true }
def ProofTellsUptoSaid : Prop := proofTellsUptoRow.holds Tryz.pinned (OpenSpec.upto proofTellsSpec)

/-- 'cloaklaw03.ProofComplete', WHERE WHAT IT READS IS OF BULK AT MOST 1048576: true; the input reads as it did. -/
def proofCompleteUptoRow : OpenClaim := { program := "ytlmhhgemiknhdaagreatdoor", sum := "df1385b9f0b096c79beff6a7a02ad9683215843947eb8d6623e15d57dad10a1e", func := "cloak/cloaklaw03.ProofComplete", spec := "proofComplete", inPlace := ["internal/abi.NoEscape"], unfollowed := true, recurses := true, named := ["math/bits.deBruijn64tab", "math/bits.divideError", "math/bits.overflowError", "internal/strconv.uint64pow10", "math/bits.deBruijn32tab"], apart := false, laid := [("math/bits.deBruijn32tab", laid_math_bits_deBruijn32tab), ("math/bits.deBruijn64tab", laid_math_bits_deBruijn64tab), ("internal/strconv.uint64pow10", laid_internal_strconv_uint64pow10)], narrowed := true }
def ProofCompleteUptoSaid : Prop := proofCompleteUptoRow.holds Tryz.pinned (OpenSpec.upto proofCompleteSpec)

/-- 'cloaklaw03.ProofWitness', WHERE WHAT IT READS IS OF BULK AT MOST 1048576: true; the input reads as it did. -/
def proofWitnessUptoRow : OpenClaim := { program := "ytlmhhgemiknhdaagreatdoor", sum := "df1385b9f0b096c79beff6a7a02ad9683215843947eb8d6623e15d57dad10a1e", func := "cloak/cloaklaw03.ProofWitness", spec := "proofWitness", inPlace := ["internal/abi.NoEscape"], unfollowed := true, recurses := true, named := ["math/bits.deBruijn64tab", "math/bits.divideError", "math/bits.overflowError", "internal/strconv.uint64pow10", "math/bits.deBruijn32tab"], apart := false, laid := [("math/bits.deBruijn32tab", laid_math_bits_deBruijn32tab), ("math/bits.deBruijn64tab", laid_math_bits_deBruijn64tab), ("internal/strconv.uint64pow10", laid_internal_strconv_uint64pow10)], narrowed := true }
def ProofWitnessUptoSaid : Prop := proofWitnessUptoRow.holds Tryz.pinned (OpenSpec.upto proofWitnessSpec)

/-- 'cloaklaw03.ProofEqual', WHERE WHAT IT READS IS OF BULK AT MOST 1048576: true; the input reads as it did. -/
def proofEqualUptoRow : OpenClaim := { program := "ytlmhhgemiknhdaagreatdoor", sum := "df1385b9f0b096c79beff6a7a02ad9683215843947eb8d6623e15d57dad10a1e", func := "cloak/cloaklaw03.ProofEqual", spec := "proofEqual", inPlace := ["internal/abi.NoEscape"], unfollowed := true, recurses := true, named := ["math/bits.deBruijn64tab", "math/bits.divideError", "math/bits.overflowError", "internal/strconv.uint64pow10", "math/bits.deBruijn32tab"], apart := false, laid := [("math/bits.deBruijn32tab", laid_math_bits_deBruijn32tab), ("math/bits.deBruijn64tab", laid_math_bits_deBruijn64tab), ("internal/strconv.uint64pow10", laid_internal_strconv_uint64pow10)], narrowed := true }
def ProofEqualUptoSaid : Prop := proofEqualUptoRow.holds Tryz.pinned (OpenSpec.upto proofEqualSpec)

/-- 'cloaklaw03.ProofShape', WHERE WHAT IT READS IS OF BULK AT MOST 1048576: true; the input reads as it did. -/
def proofShapeUptoRow : OpenClaim := { program := "ytlmhhgemiknhdaagreatdoor", sum := "df1385b9f0b096c79beff6a7a02ad9683215843947eb8d6623e15d57dad10a1e", func := "cloak/cloaklaw03.ProofShape", spec := "proofShape", inPlace := ["internal/abi.NoEscape"], unfollowed := true, recurses := true, named := ["math/bits.deBruijn64tab", "math/bits.divideError", "math/bits.overflowError", "internal/strconv.uint64pow10", "math/bits.deBruijn32tab"], apart := false, laid := [("math/bits.deBruijn32tab", laid_math_bits_deBruijn32tab), ("math/bits.deBruijn64tab", laid_math_bits_deBruijn64tab), ("internal/strconv.uint64pow10", laid_internal_strconv_uint64pow10)], narrowed := true }
def ProofShapeUptoSaid : Prop := proofShapeUptoRow.holds Tryz.pinned (OpenSpec.upto proofShapeSpec)

/-- 'cloaklaw03.ProofOpens', WHERE WHAT IT READS IS OF BULK AT MOST 1048576: true; the input reads as it did. -/
def proofOpensUptoRow : OpenClaim := { program := "ytlmhhgemiknhdaagreatdoor", sum := "df1385b9f0b096c79beff6a7a02ad9683215843947eb8d6623e15d57dad10a1e", func := "cloak/cloaklaw03.ProofOpens", spec := "proofOpens", inPlace := ["internal/abi.NoEscape", "internal/bytealg.IndexByteString"], unfollowed := true, recurses := true, named := ["math/bits.deBruijn64tab", "math/bits.divideError", "math/bits.overflowError", "internal/strconv.uint64pow10", "math/bits.deBruijn32tab", "strconv.ErrSyntax", "strconv.ErrRange"], apart := false, laid := [("math/bits.deBruijn32tab", laid_math_bits_deBruijn32tab), ("math/bits.deBruijn64tab", laid_math_bits_deBruijn64tab), ("internal/strconv.uint64pow10", laid_internal_strconv_uint64pow10), ("strconv.ErrRange", laid_strconv_ErrRange), ("strconv.ErrSyntax", laid_strconv_ErrSyntax)], narrowed := true }
def ProofOpensUptoSaid : Prop := proofOpensUptoRow.holds Tryz.pinned (OpenSpec.upto proofOpensSpec)

/-- 'cloaklaw03.ProofSigns', WHERE WHAT IT READS IS OF BULK AT MOST 1048576: true; the input reads as it did. -/
def proofSignsUptoRow : OpenClaim := { program := "ytlmhhgemiknhdaagreatdoor", sum := "df1385b9f0b096c79beff6a7a02ad9683215843947eb8d6623e15d57dad10a1e", func := "cloak/cloaklaw03.ProofSigns", spec := "proofSigns", inPlace := ["internal/abi.NoEscape", "internal/bytealg.IndexByteString"], unfollowed := true, recurses := true, named := ["math/bits.deBruijn64tab", "math/bits.divideError", "math/bits.overflowError", "internal/strconv.uint64pow10", "math/bits.deBruijn32tab", "strconv.ErrSyntax", "strconv.ErrRange"], apart := false, laid := [("math/bits.deBruijn32tab", laid_math_bits_deBruijn32tab), ("math/bits.deBruijn64tab", laid_math_bits_deBruijn64tab), ("internal/strconv.uint64pow10", laid_internal_strconv_uint64pow10), ("strconv.ErrRange", laid_strconv_ErrRange), ("strconv.ErrSyntax", laid_strconv_ErrSyntax)], narrowed := true }
def ProofSignsUptoSaid : Prop := proofSignsUptoRow.holds Tryz.pinned (OpenSpec.upto proofSignsSpec)

/-- 'cloaklaw03.ProofEncodes', WHERE WHAT IT READS IS OF BULK AT MOST 1048576: true; the input reads as it did. -/
def proofEncodesUptoRow : OpenClaim := { program := "ytlmhhgemiknhdaagreatdoor", sum := "df1385b9f0b096c79beff6a7a02ad9683215843947eb8d6623e15d57dad10a1e", func := "cloak/cloaklaw03.ProofEncodes", spec := "proofEncodes", inPlace := ["internal/abi.NoEscape", "internal/bytealg.IndexByteString"], unfollowed := true, recurses := true, named := ["math/bits.deBruijn64tab", "math/bits.divideError", "math/bits.overflowError", "internal/strconv.uint64pow10", "math/bits.deBruijn32tab", "strconv.ErrSyntax", "strconv.ErrRange"], apart := false, laid := [("math/bits.deBruijn32tab", laid_math_bits_deBruijn32tab), ("math/bits.deBruijn64tab", laid_math_bits_deBruijn64tab), ("internal/strconv.uint64pow10", laid_internal_strconv_uint64pow10), ("strconv.ErrRange", laid_strconv_ErrRange), ("strconv.ErrSyntax", laid_strconv_ErrSyntax)], narrowed := true }
def ProofEncodesUptoSaid : Prop := proofEncodesUptoRow.holds Tryz.pinned (OpenSpec.upto proofEncodesSpec)

/-- 'cloaklaw03.ProofTools', WHERE WHAT IT READS IS OF BULK AT MOST 1048576: true; the input reads as it did. -/
def proofToolsUptoRow : OpenClaim := { program := "ytlmhhgemiknhdaagreatdoor", sum := "df1385b9f0b096c79beff6a7a02ad9683215843947eb8d6623e15d57dad10a1e", func := "cloak/cloaklaw03.ProofTools", spec := "proofTools", inPlace := ["internal/abi.NoEscape", "internal/bytealg.IndexByteString"], unfollowed := true, recurses := true, named := ["math/bits.deBruijn64tab", "math/bits.divideError", "math/bits.overflowError", "internal/strconv.uint64pow10", "math/bits.deBruijn32tab", "strconv.ErrSyntax", "strconv.ErrRange"], apart := false, laid := [("math/bits.deBruijn32tab", laid_math_bits_deBruijn32tab), ("math/bits.deBruijn64tab", laid_math_bits_deBruijn64tab), ("internal/strconv.uint64pow10", laid_internal_strconv_uint64pow10), ("strconv.ErrRange", laid_strconv_ErrRange), ("strconv.ErrSyntax", laid_strconv_ErrSyntax)], narrowed := true }
def ProofToolsUptoSaid : Prop := proofToolsUptoRow.holds Tryz.pinned (OpenSpec.upto proofToolsSpec)

/-- 'cloaklaw03.ProofCounts', WHERE WHAT IT READS IS OF BULK AT MOST 1048576: true; the input reads as it did. -/
def proofCountsUptoRow : OpenClaim := { program := "ytlmhhgemiknhdaagreatdoor", sum := "df1385b9f0b096c79beff6a7a02ad9683215843947eb8d6623e15d57dad10a1e", func := "cloak/cloaklaw03.ProofCounts", spec := "proofCounts", inPlace := ["internal/abi.NoEscape", "internal/bytealg.IndexByteString"], unfollowed := true, recurses := true, named := ["math/bits.deBruijn64tab", "math/bits.divideError", "math/bits.overflowError", "internal/strconv.uint64pow10", "math/bits.deBruijn32tab", "strconv.ErrSyntax", "strconv.ErrRange"], apart := false, laid := [("math/bits.deBruijn32tab", laid_math_bits_deBruijn32tab), ("math/bits.deBruijn64tab", laid_math_bits_deBruijn64tab), ("internal/strconv.uint64pow10", laid_internal_strconv_uint64pow10), ("strconv.ErrRange", laid_strconv_ErrRange), ("strconv.ErrSyntax", laid_strconv_ErrSyntax)], narrowed := true }
def ProofCountsUptoSaid : Prop := proofCountsUptoRow.holds Tryz.pinned (OpenSpec.upto proofCountsSpec)

/-- 'cloaklaw03.ProofRanges', WHERE WHAT IT READS IS OF BULK AT MOST 1048576: true; the input reads as it did. -/
def proofRangesUptoRow : OpenClaim := { program := "ytlmhhgemiknhdaagreatdoor", sum := "df1385b9f0b096c79beff6a7a02ad9683215843947eb8d6623e15d57dad10a1e", func := "cloak/cloaklaw03.ProofRanges", spec := "proofRanges", inPlace := ["internal/abi.NoEscape", "internal/bytealg.IndexByteString"], unfollowed := true, recurses := true, named := ["math/bits.deBruijn64tab", "math/bits.divideError", "math/bits.overflowError", "internal/strconv.uint64pow10", "math/bits.deBruijn32tab", "strconv.ErrSyntax", "strconv.ErrRange"], apart := false, laid := [("math/bits.deBruijn32tab", laid_math_bits_deBruijn32tab), ("math/bits.deBruijn64tab", laid_math_bits_deBruijn64tab), ("internal/strconv.uint64pow10", laid_internal_strconv_uint64pow10), ("strconv.ErrRange", laid_strconv_ErrRange), ("strconv.ErrSyntax", laid_strconv_ErrSyntax)], narrowed := true }
def ProofRangesUptoSaid : Prop := proofRangesUptoRow.holds Tryz.pinned (OpenSpec.upto proofRangesSpec)

end Rows
end Go.Proofs.YtlmhhgemiknhdaaGreatDoor
