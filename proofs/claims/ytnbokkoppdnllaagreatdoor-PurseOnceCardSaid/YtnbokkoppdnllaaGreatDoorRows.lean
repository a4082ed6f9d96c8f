/-
  NARROWER THAN 'FOR EVERY INPUT', by the rows' own cells (each row's printed sentence says how): PurseBack: laid · PurseWindows: laid · PurseNarrows: laid · PurseLeft: laid · PurseBurns: laid · PurseOnce: laid · PurseLends: laid · PurseRestores: laid · PurseRemainder: laid.
  DERIVED. THE GIVEN ROWS OF THIS SEAT. 9 by the template 'for every input the law returns true; each argument reads behind the call as it read before'; 0 by the template 'total and deterministic' (their statements: YtnbokkoppdnllaaGreatDoorTotals.lean).
  GIVEN WITH THE SEED: the statements are not yours to turn. If you find one false, say at which input.
  Laid BY PROGRAM, IN A SANDBOX (cutbox-rows.mjs): the forced cells as the released guide's own fill.sh prints them over the translation 0785628645b23563… (all of the seat's roots in one cut). By AI agents, Wed Nov 11 2026. No macro, syntax, notation, axiom, sorry.
-/
import Derived.Test.YtnbokkoppdnllaaGreatDoorChecked
import GoSem.Claim
import GoSem.ClaimJoined
import GoSem.ClaimMapViews
import Derived.JoinedTies
import Derived.KernelRfl
namespace Go.Proofs.YtnbokkoppdnllaaGreatDoor
/- THE CELL 'sum', in the pinned program and in every row, IS THE sha256 OF THE DUMP (.gsa) THAT YtnbokkoppdnllaaGreatDoorProg.lean LOADS. Nothing in Lean hashes anything: it is a label: what it is worth is what the hold of that sum in a sandbox is worth. -/
noncomputable def Tryz.pinned : Pinned := { name := "ytnbokkoppdnllaagreatdoor", sum := "0785628645b235633f293530ecb8b92c3b048b92eca8a9ddea2489392af2922b", checked := Tryz.checked }
namespace Rows
def none {H : Type} : Left H := { results := [], args := [] }

/- WHAT THE LISTED PACKAGE-LEVEL VARIABLES READ AS WHEN THE CALL BEGINS. Each datum BY PROGRAM (the guide's laid-datum.mjs) off the statement by which the dump's own 'gosem.cut.vars' lays the variable. In a bare row this is a premise. The card (YtnbokkoppdnllaaGreatDoorCards.lean) ties it to the program's text. -/
def laid_math_bits_deBruijn32tab {H : Type} : DataW H := .agg [.lit (.int .u8 0), .lit (.int .u8 1), .lit (.int .u8 28), .lit (.int .u8 2), .lit (.int .u8 29), .lit (.int .u8 14), .lit (.int .u8 24), .lit (.int .u8 3), .lit (.int .u8 30), .lit (.int .u8 22), .lit (.int .u8 20), .lit (.int .u8 15), .lit (.int .u8 25), .lit (.int .u8 17), .lit (.int .u8 4), .lit (.int .u8 8), .lit (.int .u8 31), .lit (.int .u8 27), .lit (.int .u8 13), .lit (.int .u8 23), .lit (.int .u8 21), .lit (.int .u8 19), .lit (.int .u8 16), .lit (.int .u8 7), .lit (.int .u8 26), .lit (.int .u8 12), .lit (.int .u8 18), .lit (.int .u8 6), .lit (.int .u8 11), .lit (.int .u8 5), .lit (.int .u8 10), .lit (.int .u8 9)]
def laid_math_bits_deBruijn64tab {H : Type} : DataW H := .agg [.lit (.int .u8 0), .lit (.int .u8 1), .lit (.int .u8 56), .lit (.int .u8 2), .lit (.int .u8 57), .lit (.int .u8 49), .lit (.int .u8 28), .lit (.int .u8 3), .lit (.int .u8 61), .lit (.int .u8 58), .lit (.int .u8 42), .lit (.int .u8 50), .lit (.int .u8 38), .lit (.int .u8 29), .lit (.int .u8 17), .lit (.int .u8 4), .lit (.int .u8 62), .lit (.int .u8 47), .lit (.int .u8 59), .lit (.int .u8 36), .lit (.int .u8 45), .lit (.int .u8 43), .lit (.int .u8 51), .lit (.int .u8 22), .lit (.int .u8 53), .lit (.int .u8 39), .lit (.int .u8 33), .lit (.int .u8 30), .lit (.int .u8 24), .lit (.int .u8 18), .lit (.int .u8 12), .lit (.int .u8 5), .lit (.int .u8 63), .lit (.int .u8 55), .lit (.int .u8 48), .lit (.int .u8 27), .lit (.int .u8 60), .lit (.int .u8 41), .lit (.int .u8 37), .lit (.int .u8 16), .lit (.int .u8 46), .lit (.int .u8 35), .lit (.int .u8 44), .lit (.int .u8 21), .lit (.int .u8 52), .lit (.int .u8 32), .lit (.int .u8 23), .lit (.int .u8 11), .lit (.int .u8 54), .lit (.int .u8 26), .lit (.int .u8 40), .lit (.int .u8 15), .lit (.int .u8 34), .lit (.int .u8 20), .lit (.int .u8 31), .lit (.int .u8 10), .lit (.int .u8 25), .lit (.int .u8 14), .lit (.int .u8 19), .lit (.int .u8 9), .lit (.int .u8 13), .lit (.int .u8 8), .lit (.int .u8 7), .lit (.int .u8 6)]
def laid_internal_strconv_uint64pow10 {H : Type} : DataW H := .agg [.lit (.int .u64 1), .lit (.int .u64 10), .lit (.int .u64 100), .lit (.int .u64 1000), .lit (.int .u64 10000), .lit (.int .u64 100000), .lit (.int .u64 1000000), .lit (.int .u64 10000000), .lit (.int .u64 100000000), .lit (.int .u64 1000000000), .lit (.int .u64 10000000000), .lit (.int .u64 100000000000), .lit (.int .u64 1000000000000), .lit (.int .u64 10000000000000), .lit (.int .u64 100000000000000), .lit (.int .u64 1000000000000000), .lit (.int .u64 10000000000000000), .lit (.int .u64 100000000000000000), .lit (.int .u64 1000000000000000000), .lit (.int .u64 10000000000000000000)]
def laid_strconv_ErrRange {H : Type} : DataW H := .iface "*errors.errorString" (.ptr (.agg [.lit (.string [118, 97, 108, 117, 101, 32, 111, 117, 116, 32, 111, 102, 32, 114, 97, 110, 103, 101])]))
def laid_strconv_ErrSyntax {H : Type} : DataW H := .iface "*errors.errorString" (.ptr (.agg [.lit (.string [105, 110, 118, 97, 108, 105, 100, 32, 115, 121, 110, 116, 97, 120])]))

/-- 'cloaklaw07.PurseBack': WHATEVER THE INPUT: true; the input reads as it did. -/
def purseBackSpec : ChangeSpec := { name := "purseBack", fn := fun _ => fun
  | [d1, d2, d3, d4] => { results := [.lit (.bool true)], args := [d1, d2, d3, d4] }
  | _ => none }
def purseBackRow : OpenClaim := { program := "ytnbokkoppdnllaagreatdoor", sum := "0785628645b235633f293530ecb8b92c3b048b92eca8a9ddea2489392af2922b", func := "cloak/cloaklaw07.PurseBack", spec := "purseBack", inPlace := ["internal/bytealg.IndexByteString", "slices.overlaps[int]", "internal/abi.NoEscape"], unfollowed := true, recurses := true, named := ["internal/strconv.uint64pow10", "math/bits.deBruijn32tab", "math/bits.deBruijn64tab", "strconv.ErrSyntax", "strconv.ErrRange", "math/bits.divideError", "math/bits.overflowError"], plainKeys := false, apart := false, laid := [("math/bits.deBruijn32tab", laid_math_bits_deBruijn32tab), ("math/bits.deBruijn64tab", laid_math_bits_deBruijn64tab), ("internal/strconv.uint64pow10", laid_internal_strconv_uint64pow10), ("strconv.ErrRange", laid_strconv_ErrRange), ("strconv.ErrSyntax", laid_strconv_ErrSyntax)] }
def PurseBackSaid : Prop := purseBackRow.holds Tryz.pinned (OpenSpec.ofChange purseBackSpec)

/-- ITS FALSE NEIGHBOUR: 'it returns false'. Refute it at one input. -/
def purseBackWrong : ChangeSpec := { name := "purseBack", fn := fun _ => fun
  | [d1, d2, d3, d4] => { results := [.lit (.bool false)], args := [d1, d2, d3, d4] }
  | _ => none }
def PurseBackWrongFalsely : Prop := purseBackRow.holds Tryz.pinned (OpenSpec.ofChange purseBackWrong)

/-- 'cloaklaw07.PurseWindows': WHATEVER THE INPUT: true; the input reads as it did. -/
def purseWindowsSpec : ChangeSpec := { name := "purseWindows", fn := fun _ => fun
  | [d1, d2, d3, d4] => { results := [.lit (.bool true)], args := [d1, d2, d3, d4] }
  | _ => none }
def purseWindowsRow : OpenClaim := { program := "ytnbokkoppdnllaagreatdoor", sum := "0785628645b235633f293530ecb8b92c3b048b92eca8a9ddea2489392af2922b", func := "cloak/cloaklaw07.PurseWindows", spec := "purseWindows", inPlace := ["internal/bytealg.IndexByteString", "slices.overlaps[int]", "internal/abi.NoEscape"], unfollowed := true, recurses := true, named := ["internal/strconv.uint64pow10", "math/bits.deBruijn32tab", "math/bits.deBruijn64tab", "strconv.ErrSyntax", "strconv.ErrRange", "math/bits.divideError", "math/bits.overflowError"], plainKeys := false, apart := false, laid := [("math/bits.deBruijn32tab", laid_math_bits_deBruijn32tab), ("math/bits.deBruijn64tab", laid_math_bits_deBruijn64tab), ("internal/strconv.uint64pow10", laid_internal_strconv_uint64pow10), ("strconv.ErrRange", laid_strconv_ErrRange), ("strconv.ErrSyntax", laid_strconv_ErrSyntax)] }
def PurseWindowsSaid : Prop := purseWindowsRow.holds Tryz.pinned (OpenSpec.ofChange purseWindowsSpec)

/-- ITS FALSE NEIGHBOUR: 'it returns false'. Refute it at one input. -/
def purseWindowsWrong : ChangeSpec := { name := "purseWindows", fn := fun _ => fun
  | [d1, d2, d3, d4] => { results := [.lit (.bool false)], args := [d1, d2, d3, d4] }
  | _ => none }
def PurseWindowsWrongFalsely : Prop := purseWindowsRow.holds Tryz.pinned (OpenSpec.ofChange purseWindowsWrong)

/-- 'cloaklaw07.PurseNarrows': WHATEVER THE INPUT: true; the input reads as it did. -/
def purseNarrowsSpec : ChangeSpec := { name := "purseNarrows", fn := fun _ => fun
  | [d1, d2, d3] => { results := [.lit (.bool true)], args := [d1, d2, d3] }
  | _ => none }
def purseNarrowsRow : OpenClaim := { program := "ytnbokkoppdnllaagreatdoor", sum := "0785628645b235633f293530ecb8b92c3b048b92eca8a9ddea2489392af2922b", func := "cloak/cloaklaw07.PurseNarrows", spec := "purseNarrows", inPlace := ["internal/bytealg.IndexByteString", "slices.overlaps[int]", "internal/abi.NoEscape"], unfollowed := true, recurses := true, named := ["internal/strconv.uint64pow10", "math/bits.deBruijn32tab", "math/bits.deBruijn64tab", "strconv.ErrSyntax", "strconv.ErrRange", "math/bits.divideError", "math/bits.overflowError"], plainKeys := false, apart := false, laid := [("math/bits.deBruijn32tab", laid_math_bits_deBruijn32tab), ("math/bits.deBruijn64tab", laid_math_bits_deBruijn64tab), ("internal/strconv.uint64pow10", laid_internal_strconv_uint64pow10), ("strconv.ErrRange", laid_strconv_ErrRange), ("strconv.ErrSyntax", laid_strconv_ErrSyntax)] }
def PurseNarrowsSaid : Prop := purseNarrowsRow.holds Tryz.pinned (OpenSpec.ofChange purseNarrowsSpec)

/-- ITS FALSE NEIGHBOUR: 'it returns false'. Refute it at one input. -/
def purseNarrowsWrong : ChangeSpec := { name := "purseNarrows", fn := fun _ => fun
  | [d1, d2, d3] => { results := [.lit (.bool false)], args := [d1, d2, d3] }
  | _ => none }
def PurseNarrowsWrongFalsely : Prop := purseNarrowsRow.holds Tryz.pinned (OpenSpec.ofChange purseNarrowsWrong)

/-- 'cloaklaw07.PurseLeft': WHATEVER THE INPUT: true; the input reads as it did. -/
def purseLeftSpec : ChangeSpec := { name := "purseLeft", fn := fun _ => fun
  | [d1, d2, d3, d4, d5, d6] => { results := [.lit (.bool true)], args := [d1, d2, d3, d4, d5, d6] }
  | _ => none }
def purseLeftRow : OpenClaim := { program := "ytnbokkoppdnllaagreatdoor", sum := "0785628645b235633f293530ecb8b92c3b048b92eca8a9ddea2489392af2922b", func := "cloak/cloaklaw07.PurseLeft", spec := "purseLeft", inPlace := ["internal/bytealg.IndexByteString", "slices.overlaps[int]", "internal/abi.NoEscape"], unfollowed := true, recurses := true, named := ["internal/strconv.uint64pow10", "math/bits.deBruijn32tab", "math/bits.deBruijn64tab", "strconv.ErrSyntax", "strconv.ErrRange", "math/bits.divideError", "math/bits.overflowError"], plainKeys := false, apart := false, laid := [("math/bits.deBruijn32tab", laid_math_bits_deBruijn32tab), ("math/bits.deBruijn64tab", laid_math_bits_deBruijn64tab), ("internal/strconv.uint64pow10", laid_internal_strconv_uint64pow10), ("strconv.ErrRange", laid_strconv_ErrRange), ("strconv.ErrSyntax", laid_strconv_ErrSyntax)] }
def PurseLeftSaid : Prop := purseLeftRow.holds Tryz.pinned (OpenSpec.ofChange purseLeftSpec)

/-- ITS FALSE NEIGHBOUR: 'it returns false'. Refute it at one input. -/
def purseLeftWrong : ChangeSpec := { name := "purseLeft", fn := fun _ => fun
  | [d1, d2, d3, d4, d5, d6] => { results := [.lit (.bool false)], args := [d1, d2, d3, d4, d5, d6] }
  | _ => none }
def PurseLeftWrongFalsely : Prop := purseLeftRow.holds Tryz.pinned (OpenSpec.ofChange purseLeftWrong)

/-- 'cloaklaw07.PurseBurns': WHATEVER THE INPUT: true; the input reads as it did. -/
def purseBurnsSpec : ChangeSpec := { name := "purseBurns", fn := fun _ => fun
  | [d1, d2, d3, d4, d5] => { results := [.lit (.bool true)], args := [d1, d2, d3, d4, d5] }
  | _ => none }
def purseBurnsRow : OpenClaim := { program := "ytnbokkoppdnllaagreatdoor", sum := "0785628645b235633f293530ecb8b92c3b048b92eca8a9ddea2489392af2922b", func := "cloak/cloaklaw07.PurseBurns", spec := "purseBurns", inPlace := ["internal/bytealg.IndexByteString", "slices.overlaps[int]", "internal/abi.NoEscape"], unfollowed := true, recurses := true, named := ["internal/strconv.uint64pow10", "math/bits.deBruijn32tab", "math/bits.deBruijn64tab", "strconv.ErrSyntax", "strconv.ErrRange", "math/bits.divideError", "math/bits.overflowError"], plainKeys := false, apart := false, laid := [("math/bits.deBruijn32tab", laid_math_bits_deBruijn32tab), ("math/bits.deBruijn64tab", laid_math_bits_deBruijn64tab), ("internal/strconv.uint64pow10", laid_internal_strconv_uint64pow10), ("strconv.ErrRange", laid_strconv_ErrRange), ("strconv.ErrSyntax", laid_strconv_ErrSyntax)] }
def PurseBurnsSaid : Prop := purseBurnsRow.holds Tryz.pinned (OpenSpec.ofChange purseBurnsSpec)

/-- ITS FALSE NEIGHBOUR: 'it returns false'. Refute it at one input. -/
def purseBurnsWrong : ChangeSpec := { name := "purseBurns", fn := fun _ => fun
  | [d1, d2, d3, d4, d5] => { results := [.lit (.bool false)], args := [d1, d2, d3, d4, d5] }
  | _ => none }
def PurseBurnsWrongFalsely : Prop := purseBurnsRow.holds Tryz.pinned (OpenSpec.ofChange purseBurnsWrong)

/-- 'cloaklaw07.PurseOnce': WHATEVER THE INPUT: true; the input reads as it did. -/
def purseOnceSpec : ChangeSpec := { name := "purseOnce", fn := fun _ => fun
  | [d1, d2, d3] => { results := [.lit (.bool true)], args := [d1, d2, d3] }
  | _ => none }
def purseOnceRow : OpenClaim := { program := "ytnbokkoppdnllaagreatdoor", sum := "0785628645b235633f293530ecb8b92c3b048b92eca8a9ddea2489392af2922b", func := "cloak/cloaklaw07.PurseOnce", spec := "purseOnce", inPlace := ["internal/bytealg.IndexByteString", "slices.overlaps[int]", "internal/abi.NoEscape"], unfollowed := true, recurses := true, named := ["internal/strconv.uint64pow10", "math/bits.deBruijn32tab", "math/bits.deBruijn64tab", "strconv.ErrSyntax", "strconv.ErrRange", "math/bits.divideError", "math/bits.overflowError"], plainKeys := false, apart := false, laid := [("math/bits.deBruijn32tab", laid_math_bits_deBruijn32tab), ("math/bits.deBruijn64tab", laid_math_bits_deBruijn64tab), ("internal/strconv.uint64pow10", laid_internal_strconv_uint64pow10), ("strconv.ErrRange", laid_strconv_ErrRange), ("strconv.ErrSyntax", laid_strconv_ErrSyntax)] }
def PurseOnceSaid : Prop := purseOnceRow.holds Tryz.pinned (OpenSpec.ofChange purseOnceSpec)

/-- ITS FALSE NEIGHBOUR: 'it returns false'. Refute it at one input. -/
def purseOnceWrong : ChangeSpec := { name := "purseOnce", fn := fun _ => fun
  | [d1, d2, d3] => { results := [.lit (.bool false)], args := [d1, d2, d3] }
  | _ => none }
def PurseOnceWrongFalsely : Prop := purseOnceRow.holds Tryz.pinned (OpenSpec.ofChange purseOnceWrong)

/-- 'cloaklaw07.PurseLends': WHATEVER THE INPUT: true; the input reads as it did. -/
def purseLendsSpec : ChangeSpec := { name := "purseLends", fn := fun _ => fun
  | [d1, d2, d3, d4, d5, d6, d7] => { results := [.lit (.bool true)], args := [d1, d2, d3, d4, d5, d6, d7] }
  | _ => none }
def purseLendsRow : OpenClaim := { program := "ytnbokkoppdnllaagreatdoor", sum := "0785628645b235633f293530ecb8b92c3b048b92eca8a9ddea2489392af2922b", func := "cloak/cloaklaw07.PurseLends", spec := "purseLends", inPlace := ["internal/bytealg.IndexByteString", "slices.overlaps[int]", "internal/abi.NoEscape"], unfollowed := true, recurses := true, named := ["internal/strconv.uint64pow10", "math/bits.deBruijn32tab", "math/bits.deBruijn64tab", "strconv.ErrSyntax", "strconv.ErrRange", "math/bits.divideError", "math/bits.overflowError"], plainKeys := false, apart := false, laid := [("math/bits.deBruijn32tab", laid_math_bits_deBruijn32tab), ("math/bits.deBruijn64tab", laid_math_bits_deBruijn64tab), ("internal/strconv.uint64pow10", laid_internal_strconv_uint64pow10), ("strconv.ErrRange", laid_strconv_ErrRange), ("strconv.ErrSyntax", laid_strconv_ErrSyntax)] }
def PurseLendsSaid : Prop := purseLendsRow.holds Tryz.pinned (OpenSpec.ofChange purseLendsSpec)

/-- ITS FALSE NEIGHBOUR: 'it returns false'. Refute it at one input. -/
def purseLendsWrong : ChangeSpec := { name := "purseLends", fn := fun _ => fun
  | [d1, d2, d3, d4, d5, d6, d7] => { results := [.lit (.bool false)], args := [d1, d2, d3, d4, d5, d6, d7] }
  | _ => none }
def PurseLendsWrongFalsely : Prop := purseLendsRow.holds Tryz.pinned (OpenSpec.ofChange purseLendsWrong)

/-- 'cloaklaw07.PurseRestores': WHATEVER THE INPUT: true; the input reads as it did. -/
def purseRestoresSpec : ChangeSpec := { name := "purseRestores", fn := fun _ => fun
  | [d1, d2, d3, d4, d5] => { results := [.lit (.bool true)], args := [d1, d2, d3, d4, d5] }
  | _ => none }
def purseRestoresRow : OpenClaim := { program := "ytnbokkoppdnllaagreatdoor", sum := "0785628645b235633f293530ecb8b92c3b048b92eca8a9ddea2489392af2922b", func := "cloak/cloaklaw07.PurseRestores", spec := "purseRestores", inPlace := ["internal/bytealg.IndexByteString", "slices.overlaps[int]", "internal/abi.NoEscape"], unfollowed := true, recurses := true, named := ["internal/strconv.uint64pow10", "math/bits.deBruijn32tab", "math/bits.deBruijn64tab", "strconv.ErrSyntax", "strconv.ErrRange", "math/bits.divideError", "math/bits.overflowError"], plainKeys := false, apart := false, laid := [("math/bits.deBruijn32tab", laid_math_bits_deBruijn32tab), ("math/bits.deBruijn64tab", laid_math_bits_deBruijn64tab), ("internal/strconv.uint64pow10", laid_internal_strconv_uint64pow10), ("strconv.ErrRange", laid_strconv_ErrRange), ("strconv.ErrSyntax", laid_strconv_ErrSyntax)] }
def PurseRestoresSaid : Prop := purseRestoresRow.holds Tryz.pinned (OpenSpec.ofChange purseRestoresSpec)

/-- ITS FALSE NEIGHBOUR: 'it returns false'. Refute it at one input. -/
def purseRestoresWrong : ChangeSpec := { name := "purseRestores", fn := fun _ => fun
  | [d1, d2, d3, d4, d5] => { results := [.lit (.bool false)], args := [d1, d2, d3, d4, d5] }
  | _ => none }
def PurseRestoresWrongFalsely : Prop := purseRestoresRow.holds Tryz.pinned (OpenSpec.ofChange purseRestoresWrong)

/-- 'cloaklaw07.PurseRemainder': WHATEVER THE INPUT: true; the input reads as it did. -/
def purseRemainderSpec : ChangeSpec := { name := "purseRemainder", fn := fun _ => fun
  | [d1, d2, d3] => { results := [.lit (.bool true)], args := [d1, d2, d3] }
  | _ => none }
def purseRemainderRow : OpenClaim := { program := "ytnbokkoppdnllaagreatdoor", sum := "0785628645b235633f293530ecb8b92c3b048b92eca8a9ddea2489392af2922b", func := "cloak/cloaklaw07.PurseRemainder", spec := "purseRemainder", inPlace := ["internal/bytealg.IndexByteString", "slices.overlaps[int]", "internal/abi.NoEscape"], unfollowed := true, recurses := true, named := ["internal/strconv.uint64pow10", "math/bits.deBruijn32tab", "math/bits.deBruijn64tab", "strconv.ErrSyntax", "strconv.ErrRange", "math/bits.divideError", "math/bits.overflowError"], plainKeys := false, apart := false, laid := [("math/bits.deBruijn32tab", laid_math_bits_deBruijn32tab), ("math/bits.deBruijn64tab", laid_math_bits_deBruijn64tab), ("internal/strconv.uint64pow10", laid_internal_strconv_uint64pow10), ("strconv.ErrRange", laid_strconv_ErrRange), ("strconv.ErrSyntax", laid_strconv_ErrSyntax)] }
def PurseRemainderSaid : Prop := purseRemainderRow.holds Tryz.pinned (OpenSpec.ofChange purseRemainderSpec)

/-- ITS FALSE NEIGHBOUR: 'it returns false'. Refute it at one input. -/
def purseRemainderWrong : ChangeSpec := { name := "purseRemainder", fn := fun _ => fun
  | [d1, d2, d3] => { results := [.lit (.bool false)], args := [d1, d2, d3] }
  | _ => none }
def PurseRemainderWrongFalsely : Prop := purseRemainderRow.holds Tryz.pinned (OpenSpec.ofChange purseRemainderWrong)

/- THE SECOND FORM. 'bulk': how many values and letters a reading holds, each counted each time it is reached (what is shared counts as often as it is met; a slice's spare places count too). A statement '..UptoSaid' is the law's where the arguments, and the package variables that the reading takes, are together of bulk at most 1048576: NARROWER than '..Said'. Prove '..Said' where nothing that the law and all that it calls make is longer than what came in: it says more and counts as full. Else prove '..UptoSaid'. A law counts once. -/
mutual
def uptoBulk {H : Type} : DataW H → Nat
  | .lit (.string bytes) => bytes.length + 1
  | .lit _ => 1
  | .nil => 1
  | .ptr d => uptoBulk d + 1
  | .slice elems spare => uptoBulkAll elems + uptoBulkAll spare + 1
  | .agg parts => uptoBulkAll parts + 1
  | .iface _ d => uptoBulk d + 1
  | .map entries => uptoBulkEntries entries + 1
  | .held _ => 1
def uptoBulkAll {H : Type} : List (DataW H) → Nat
  | [] => 0
  | d :: r => uptoBulk d + uptoBulkAll r
def uptoBulkEntries {H : Type} : List (Lit × DataW H) → Nat
  | [] => 0
  | x :: r => uptoBulkEntry x + uptoBulkEntries r
def uptoBulkEntry {H : Type} : Lit × DataW H → Nat
  | (.string bytes, d) => bytes.length + uptoBulk d + 1
  | (_, d) => uptoBulk d + 1
 end
def uptoSmall : (H : Type) → List (DataW H) → Bool := fun _ ds => decide (uptoBulkAll ds ≤ 1048576)
def OpenSpec.upto (s : _root_.Go.ChangeSpec) : _root_.Go.OpenSpec := { _root_.Go.OpenSpec.ofChange s with cond := some uptoSmall }

/-- 'cloaklaw07.PurseBack', WHERE WHAT IT READS IS OF BULK AT MOST 1048576: true; the input reads as it did. -/
def purseBackUptoRow : OpenClaim := { program := "ytnbokkoppdnllaagreatdoor", sum := "0785628645b235633f293530ecb8b92c3b048b92eca8a9ddea2489392af2922b", func := "cloak/cloaklaw07.PurseBack", spec := "purseBack", inPlace := ["internal/bytealg.IndexByteString", "slices.overlaps[int]", "internal/abi.NoEscape"], unfollowed := true, recurses := true, named := ["internal/strconv.uint64pow10", "math/bits.deBruijn32tab", "math/bits.deBruijn64tab", "strconv.ErrSyntax", "strconv.ErrRange", "math/bits.divideError", "math/bits.overflowError"], plainKeys := false, apart := false, laid := [("math/bits.deBruijn32tab", laid_math_bits_deBruijn32tab), ("math/bits.deBruijn64tab", laid_math_bits_deBruijn64tab), ("internal/strconv.uint64pow10", laid_internal_strconv_uint64pow10), ("strconv.ErrRange", laid_strconv_ErrRange), ("strconv.ErrSyntax", laid_strconv_ErrSyntax)], narrowed := true }
def PurseBackUptoSaid : Prop := purseBackUptoRow.holds Tryz.pinned (OpenSpec.upto purseBackSpec)

/-- 'cloaklaw07.PurseWindows', WHERE WHAT IT READS IS OF BULK AT MOST 1048576: true; the input reads as it did. -/
def purseWindowsUptoRow : OpenClaim := { program := "ytnbokkoppdnllaagreatdoor", sum := "0785628645b235633f293530ecb8b92c3b048b92eca8a9ddea2489392af2922b", func := "cloak/cloaklaw07.PurseWindows", spec := "purseWindows", inPlace := ["internal/bytealg.IndexByteString", "slices.overlaps[int]", "internal/abi.NoEscape"], unfollowed := true, recurses := true, named := ["internal/strconv.uint64pow10", "math/bits.deBruijn32tab", "math/bits.deBruijn64tab", "strconv.ErrSyntax", "strconv.ErrRange", "math/bits.divideError", "math/bits.overflowError"], plainKeys := false, apart := false, laid := [("math/bits.deBruijn32tab", laid_math_bits_deBruijn32tab), ("math/bits.deBruijn64tab", laid_math_bits_deBruijn64tab), ("internal/strconv.uint64pow10", laid_internal_strconv_uint64pow10), ("strconv.ErrRange", laid_strconv_ErrRange), ("strconv.ErrSyntax", laid_strconv_ErrSyntax)], narrowed := true }
def PurseWindowsUptoSaid : Prop := purseWindowsUptoRow.holds Tryz.pinned (OpenSpec.upto purseWindowsSpec)

/-- 'cloaklaw07.PurseNarrows', WHERE WHAT IT READS IS OF BULK AT MOST 1048576: true; the input reads as it did. -/
def purseNarrowsUptoRow : OpenClaim := { program := "ytnbokkoppdnllaagreatdoor", sum := "0785628645b235633f293530ecb8b92c3b048b92eca8a9ddea2489392af2922b", func := "cloak/cloaklaw07.PurseNarrows", spec := "purseNarrows", inPlace := ["internal/bytealg.IndexByteString", "slices.overlaps[int]", "internal/abi.NoEscape"], unfollowed := true, recurses := true, named := ["internal/strconv.uint64pow10", "math/bits.deBruijn32tab", "math/bits.deBruijn64tab", "strconv.ErrSyntax", "strconv.ErrRange", "math/bits.divideError", "math/bits.overflowError"], plainKeys := false, apart := false, laid := [("math/bits.deBruijn32tab", laid_math_bits_deBruijn32tab), ("math/bits.deBruijn64tab", laid_math_bits_deBruijn64tab), ("internal/strconv.uint64pow10", laid_internal_strconv_uint64pow10), ("strconv.ErrRange", laid_strconv_ErrRange), ("strconv.ErrSyntax", laid_strconv_ErrSyntax)], narrowed := true }
def PurseNarrowsUptoSaid : Prop := purseNarrowsUptoRow.holds Tryz.pinned (OpenSpec.upto purseNarrowsSpec)

/-- 'cloaklaw07.PurseLeft', WHERE WHAT IT READS IS OF BULK AT MOST 1048576: true; the input reads as it did. -/
def purseLeftUptoRow : OpenClaim := { program := "ytnbokkoppdnllaagreatdoor", sum := "0785628645b235633f293530ecb8b92c3b048b92eca8a9ddea2489392af2922b", func := "cloak/cloaklaw07.PurseLeft", spec := "purseLeft", inPlace := ["internal/bytealg.IndexByteString", "slices.overlaps[int]", "internal/abi.NoEscape"], unfollowed := true, recurses := true, named := ["internal/strconv.uint64pow10", "math/bits.deBruijn32tab", "math/bits.deBruijn64tab", "strconv.ErrSyntax", "strconv.ErrRange", "math/bits.divideError", "math/bits.overflowError"], plainKeys := false, apart := false, laid := [("math/bits.deBruijn32tab", laid_math_bits_deBruijn32tab), ("math/bits.deBruijn64tab", laid_math_bits_deBruijn64tab), ("internal/strconv.uint64pow10", laid_internal_strconv_uint64pow10), ("strconv.ErrRange", laid_strconv_ErrRange), ("strconv.ErrSyntax", laid_strconv_ErrSyntax)], narrowed := true }
def PurseLeftUptoSaid : Prop := purseLeftUptoRow.holds Tryz.pinned (OpenSpec.upto purseLeftSpec)

/-- 'cloaklaw07.PurseBurns', WHERE WHAT IT READS IS OF BULK AT MOST 1048576: true; the input reads as it did. -/
def purseBurnsUptoRow : OpenClaim := { program := "ytnbokkoppdnllaagreatdoor", sum := "0785628645b235633f293530ecb8b92c3b048b92eca8a9ddea2489392af2922b", func := "cloak/cloaklaw07.PurseBurns", spec := "purseBurns", inPlace := ["internal/bytealg.IndexByteString", "slices.overlaps[int]", "internal/abi.NoEscape"], unfollowed := true, recurses := true, named := ["internal/strconv.uint64pow10", "math/bits.deBruijn32tab", "math/bits.deBruijn64tab", "strconv.ErrSyntax", "strconv.ErrRange", "math/bits.divideError", "math/bits.overflowError"], plainKeys := false, apart := false, laid := [("math/bits.deBruijn32tab", laid_math_bits_deBruijn32tab), ("math/bits.deBruijn64tab", laid_math_bits_deBruijn64tab), ("internal/strconv.uint64pow10", laid_internal_strconv_uint64pow10), ("strconv.ErrRange", laid_strconv_ErrRange), ("strconv.ErrSyntax", laid_strconv_ErrSyntax)], narrowed := true }
def PurseBurnsUptoSaid : Prop := purseBurnsUptoRow.holds Tryz.pinned (OpenSpec.upto purseBurnsSpec)

/-- 'cloaklaw07.PurseOnce', WHERE WHAT IT READS IS OF BULK AT MOST 1048576: true; the input reads as it did. -/
def purseOnceUptoRow : OpenClaim := { program := "ytnbokkoppdnllaagreatdoor", sum := "0785628645b235633f293530ecb8b92c3b048b92eca8a9ddea2489392af2922b", func := "cloak/cloaklaw07.PurseOnce", spec := "purseOnce", inPlace := ["internal/bytealg.IndexByteString", "slices.overlaps[int]", "internal/abi.NoEscape"], unfollowed := true, recurses := true, named := ["internal/strconv.uint64pow10", "math/bits.deBruijn32tab", "math/bits.deBruijn64tab", "strconv.ErrSyntax", "strconv.ErrRange", "math/bits.divideError", "math/bits.overflowError"], plainKeys := false, apart := false, laid := [("math/bits.deBruijn32tab", laid_math_bits_deBruijn32tab), ("math/bits.deBruijn64tab", laid_math_bits_deBruijn64tab), ("internal/strconv.uint64pow10", laid_internal_strconv_uint64pow10), ("strconv.ErrRange", laid_strconv_ErrRange), ("strconv.ErrSyntax", laid_strconv_ErrSyntax)], narrowed := true }
def PurseOnceUptoSaid : Prop := purseOnceUptoRow.holds Tryz.pinned (OpenSpec.upto purseOnceSpec)

/-- 'cloaklaw07.PurseLends', WHERE WHAT IT READS IS OF BULK AT MOST 1048576: true; the input reads as it did. -/
def purseLendsUptoRow : OpenClaim := { program := "ytnbokkoppdnllaagreatdoor", sum := "0785628645b235633f293530ecb8b92c3b048b92eca8a9ddea2489392af2922b", func := "cloak/cloaklaw07.PurseLends", spec := "purseLends", inPlace := ["internal/bytealg.IndexByteString", "slices.overlaps[int]", "internal/abi.NoEscape"], unfollowed := true, recurses := true, named := ["internal/strconv.uint64pow10", "math/bits.deBruijn32tab", "math/bits.deBruijn64tab", "strconv.ErrSyntax", "strconv.ErrRange", "math/bits.divideError", "math/bits.overflowError"], plainKeys := false, apart := false, laid := [("math/bits.deBruijn32tab", laid_math_bits_deBruijn32tab), ("math/bits.deBruijn64tab", laid_math_bits_deBruijn64tab), ("internal/strconv.uint64pow10", laid_internal_strconv_uint64pow10), ("strconv.ErrRange", laid_strconv_ErrRange), ("strconv.ErrSyntax", laid_strconv_ErrSyntax)], narrowed := true }
def PurseLendsUptoSaid : Prop := purseLendsUptoRow.holds Tryz.pinned (OpenSpec.upto purseLendsSpec)

/-- 'cloaklaw07.PurseRestores', WHERE WHAT IT READS IS OF BULK AT MOST 1048576: true; the input reads as it did. -/
def purseRestoresUptoRow : OpenClaim := { program := "ytnbokkoppdnllaagreatdoor", sum := "0785628645b235633f293530ecb8b92c3b048b92eca8a9ddea2489392af2922b", func := "cloak/cloaklaw07.PurseRestores", spec := "purseRestores", inPlace := ["internal/bytealg.IndexByteString", "slices.overlaps[int]", "internal/abi.NoEscape"], unfollowed := true, recurses := true, named := ["internal/strconv.uint64pow10", "math/bits.deBruijn32tab", "math/bits.deBruijn64tab", "strconv.ErrSyntax", "strconv.ErrRange", "math/bits.divideError", "math/bits.overflowError"], plainKeys := false, apart := false, laid := [("math/bits.deBruijn32tab", laid_math_bits_deBruijn32tab), ("math/bits.deBruijn64tab", laid_math_bits_deBruijn64tab), ("internal/strconv.uint64pow10", laid_internal_strconv_uint64pow10), ("strconv.ErrRange", laid_strconv_ErrRange), ("strconv.ErrSyntax", laid_strconv_ErrSyntax)], narrowed := true }
def PurseRestoresUptoSaid : Prop := purseRestoresUptoRow.holds Tryz.pinned (OpenSpec.upto purseRestoresSpec)

/-- 'cloaklaw07.PurseRemainder', WHERE WHAT IT READS IS OF BULK AT MOST 1048576: true; the input reads as it did. -/
def purseRemainderUptoRow : OpenClaim := { program := "ytnbokkoppdnllaagreatdoor", sum := "0785628645b235633f293530ecb8b92c3b048b92eca8a9ddea2489392af2922b", func := "cloak/cloaklaw07.PurseRemainder", spec := "purseRemainder", inPlace := ["internal/bytealg.IndexByteString", "slices.overlaps[int]", "internal/abi.NoEscape"], unfollowed := true, recurses := true, named := ["internal/strconv.uint64pow10", "math/bits.deBruijn32tab", "math/bits.deBruijn64tab", "strconv.ErrSyntax", "strconv.ErrRange", "math/bits.divideError", "math/bits.overflowError"], plainKeys := false, apart := false, laid := [("math/bits.deBruijn32tab", laid_math_bits_deBruijn32tab), ("math/bits.deBruijn64tab", laid_math_bits_deBruijn64tab), ("internal/strconv.uint64pow10", laid_internal_strconv_uint64pow10), ("strconv.ErrRange", laid_strconv_ErrRange), ("strconv.ErrSyntax", laid_strconv_ErrSyntax)], narrowed := true }
def PurseRemainderUptoSaid : Prop := purseRemainderUptoRow.holds Tryz.pinned (OpenSpec.upto purseRemainderSpec)

end Rows
end Go.Proofs.YtnbokkoppdnllaaGreatDoor
