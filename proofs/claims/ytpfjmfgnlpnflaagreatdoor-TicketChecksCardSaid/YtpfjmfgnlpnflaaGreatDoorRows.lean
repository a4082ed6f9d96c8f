/-
  NARROWER THAN 'FOR EVERY INPUT', by the rows' own cells (each row's printed sentence says how): TopMatchings: laid · TicketSound: laid · TicketExposes: laid · TicketHonest: laid · TicketLends: laid · TicketBlind: laid · TicketFollows: laid · TicketChecks: laid.
  DERIVED. THE GIVEN ROWS OF THIS SEAT. 8 by the template 'for every input the law returns true; each argument reads behind the call as it read before'; 0 by the template 'total and deterministic' (their statements: YtpfjmfgnlpnflaaGreatDoorTotals.lean).
  GIVEN WITH THE SEED: the statements are not yours to turn. If you find one false, say at which input.
  Laid BY PROGRAM, IN A SANDBOX (cutbox-rows.mjs): the forced cells as the released guide's own fill.sh prints them over the translation 3d9618a183d1afcd… (all of the seat's roots in one cut). By AI agents, Wed Nov 11 2026. No macro, syntax, notation, axiom, sorry.
-/
import Derived.Test.YtpfjmfgnlpnflaaGreatDoorChecked
import GoSem.Claim
import GoSem.ClaimJoined
import GoSem.ClaimMapViews
import Derived.JoinedTies
import Derived.KernelRfl
namespace Go.Proofs.YtpfjmfgnlpnflaaGreatDoor
/- THE CELL 'sum', in the pinned program and in every row, IS THE sha256 OF THE DUMP (.gsa) THAT YtpfjmfgnlpnflaaGreatDoorProg.lean LOADS. Nothing in Lean hashes anything: it is a label: what it is worth is what the hold of that sum in a sandbox is worth. -/
noncomputable def Tryz.pinned : Pinned := { name := "ytpfjmfgnlpnflaagreatdoor", sum := "3d9618a183d1afcd5bc732a4bda586d02d008bb2027143ea083fafcd1144507e", checked := Tryz.checked }
namespace Rows
def none {H : Type} : Left H := { results := [], args := [] }

/- WHAT THE LISTED PACKAGE-LEVEL VARIABLES READ AS WHEN THE CALL BEGINS. Each datum BY PROGRAM (the guide's laid-datum.mjs) off the statement by which the dump's own 'gosem.cut.vars' lays the variable. In a bare row this is a premise. The card (YtpfjmfgnlpnflaaGreatDoorCards.lean) ties it to the program's text. -/
def laid_math_bits_deBruijn32tab {H : Type} : DataW H := .agg [.lit (.int .u8 0), .lit (.int .u8 1), .lit (.int .u8 28), .lit (.int .u8 2), .lit (.int .u8 29), .lit (.int .u8 14), .lit (.int .u8 24), .lit (.int .u8 3), .lit (.int .u8 30), .lit (.int .u8 22), .lit (.int .u8 20), .lit (.int .u8 15), .lit (.int .u8 25), .lit (.int .u8 17), .lit (.int .u8 4), .lit (.int .u8 8), .lit (.int .u8 31), .lit (.int .u8 27), .lit (.int .u8 13), .lit (.int .u8 23), .lit (.int .u8 21), .lit (.int .u8 19), .lit (.int .u8 16), .lit (.int .u8 7), .lit (.int .u8 26), .lit (.int .u8 12), .lit (.int .u8 18), .lit (.int .u8 6), .lit (.int .u8 11), .lit (.int .u8 5), .lit (.int .u8 10), .lit (.int .u8 9)]
def laid_math_bits_deBruijn64tab {H : Type} : DataW H := .agg [.lit (.int .u8 0), .lit (.int .u8 1), .lit (.int .u8 56), .lit (.int .u8 2), .lit (.int .u8 57), .lit (.int .u8 49), .lit (.int .u8 28), .lit (.int .u8 3), .lit (.int .u8 61), .lit (.int .u8 58), .lit (.int .u8 42), .lit (.int .u8 50), .lit (.int .u8 38), .lit (.int .u8 29), .lit (.int .u8 17), .lit (.int .u8 4), .lit (.int .u8 62), .lit (.int .u8 47), .lit (.int .u8 59), .lit (.int .u8 36), .lit (.int .u8 45), .lit (.int .u8 43), .lit (.int .u8 51), .lit (.int .u8 22), .lit (.int .u8 53), .lit (.int .u8 39), .lit (.int .u8 33), .lit (.int .u8 30), .lit (.int .u8 24), .lit (.int .u8 18), .lit (.int .u8 12), .lit (.int .u8 5), .lit (.int .u8 63), .lit (.int .u8 55), .lit (.int .u8 48), .lit (.int .u8 27), .lit (.int .u8 60), .lit (.int .u8 41), .lit (.int .u8 37), .lit (.int .u8 16), .lit (.int .u8 46), .lit (.int .u8 35), .lit (.int .u8 44), .lit (.int .u8 21), .lit (.int .u8 52), .lit (.int .u8 32), .lit (.int .u8 23), .lit (.int .u8 11), .lit (.int .u8 54), .lit (.int .u8 26), .lit (.int .u8 40), .lit (.int .u8 15), .lit (.int .u8 34), .lit (.int .u8 20), .lit (.int .u8 31), .lit (.int .u8 10), .lit (.int .u8 25), .lit (.int .u8 14), .lit (.int .u8 19), .lit (.int .u8 9), .lit (.int .u8 13), .lit (.int .u8 8), .lit (.int .u8 7), .lit (.int .u8 6)]
def laid_internal_strconv_uint64pow10 {H : Type} : DataW H := .agg [.lit (.int .u64 1), .lit (.int .u64 10), .lit (.int .u64 100), .lit (.int .u64 1000), .lit (.int .u64 10000), .lit (.int .u64 100000), .lit (.int .u64 1000000), .lit (.int .u64 10000000), .lit (.int .u64 100000000), .lit (.int .u64 1000000000), .lit (.int .u64 10000000000), .lit (.int .u64 100000000000), .lit (.int .u64 1000000000000), .lit (.int .u64 10000000000000), .lit (.int .u64 100000000000000), .lit (.int .u64 1000000000000000), .lit (.int .u64 10000000000000000), .lit (.int .u64 100000000000000000), .lit (.int .u64 1000000000000000000), .lit (.int .u64 10000000000000000000)]
def laid_strconv_ErrRange {H : Type} : DataW H := .iface "*errors.errorString" (.ptr (.agg [.lit (.string [118, 97, 108, 117, 101, 32, 111, 117, 116, 32, 111, 102, 32, 114, 97, 110, 103, 101])]))
def laid_strconv_ErrSyntax {H : Type} : DataW H := .iface "*errors.errorString" (.ptr (.agg [.lit (.string [105, 110, 118, 97, 108, 105, 100, 32, 115, 121, 110, 116, 97, 120])]))

/-- 'cloaktop.TopMatchings': WHATEVER THE INPUT: true; the input reads as it did. -/
def topMatchingsSpec : ChangeSpec := { name := "topMatchings", fn := fun _ => fun
  | [d1, d2, d3] => { results := [.lit (.bool true)], args := [d1, d2, d3] }
  | _ => none }
def topMatchingsRow : OpenClaim := { program := "ytpfjmfgnlpnflaagreatdoor", sum := "3d9618a183d1afcd5bc732a4bda586d02d008bb2027143ea083fafcd1144507e", func := "cloak/cloaktop.TopMatchings", spec := "topMatchings", inPlace := ["slices.overlaps[int]", "internal/abi.NoEscape"], unfollowed := true, recurses := true, named := ["math/bits.divideError", "math/bits.overflowError", "math/bits.deBruijn64tab", "internal/strconv.uint64pow10", "math/bits.deBruijn32tab"], apart := false, laid := [("math/bits.deBruijn32tab", laid_math_bits_deBruijn32tab), ("math/bits.deBruijn64tab", laid_math_bits_deBruijn64tab), ("internal/strconv.uint64pow10", laid_internal_strconv_uint64pow10)] }
def TopMatchingsSaid : Prop := topMatchingsRow.holds Tryz.pinned (OpenSpec.ofChange topMatchingsSpec)

/-- ITS FALSE NEIGHBOUR: 'it returns false'. Refute it at one input. -/
def topMatchingsWrong : ChangeSpec := { name := "topMatchings", fn := fun _ => fun
  | [d1, d2, d3] => { results := [.lit (.bool false)], args := [d1, d2, d3] }
  | _ => none }
def TopMatchingsWrongFalsely : Prop := topMatchingsRow.holds Tryz.pinned (OpenSpec.ofChange topMatchingsWrong)

/-- 'cloaklaw04.TicketSound': WHATEVER THE INPUT: true; the input reads as it did. -/
def ticketSoundSpec : ChangeSpec := { name := "ticketSound", fn := fun _ => fun
  | [d1, d2, d3, d4, d5, d6, d7, d8] => { results := [.lit (.bool true)], args := [d1, d2, d3, d4, d5, d6, d7, d8] }
  | _ => none }
def ticketSoundRow : OpenClaim := { program := "ytpfjmfgnlpnflaagreatdoor", sum := "3d9618a183d1afcd5bc732a4bda586d02d008bb2027143ea083fafcd1144507e", func := "cloak/cloaklaw04.TicketSound", spec := "ticketSound", inPlace := ["slices.overlaps[int]", "internal/abi.NoEscape"], unfollowed := true, recurses := true, named := ["math/bits.deBruijn64tab", "math/bits.divideError", "math/bits.overflowError", "internal/strconv.uint64pow10", "math/bits.deBruijn32tab"], apart := false, laid := [("math/bits.deBruijn32tab", laid_math_bits_deBruijn32tab), ("math/bits.deBruijn64tab", laid_math_bits_deBruijn64tab), ("internal/strconv.uint64pow10", laid_internal_strconv_uint64pow10)] }
def TicketSoundSaid : Prop := ticketSoundRow.holds Tryz.pinned (OpenSpec.ofChange ticketSoundSpec)

/-- ITS FALSE NEIGHBOUR: 'it returns false'. Refute it at one input. -/
def ticketSoundWrong : ChangeSpec := { name := "ticketSound", fn := fun _ => fun
  | [d1, d2, d3, d4, d5, d6, d7, d8] => { results := [.lit (.bool false)], args := [d1, d2, d3, d4, d5, d6, d7, d8] }
  | _ => none }
def TicketSoundWrongFalsely : Prop := ticketSoundRow.holds Tryz.pinned (OpenSpec.ofChange ticketSoundWrong)

/-- 'cloaklaw04.TicketExposes': WHATEVER THE INPUT: true; the input reads as it did. -/
def ticketExposesSpec : ChangeSpec := { name := "ticketExposes", fn := fun _ => fun
  | [d1, d2, d3, d4] => { results := [.lit (.bool true)], args := [d1, d2, d3, d4] }
  | _ => none }
def ticketExposesRow : OpenClaim := { program := "ytpfjmfgnlpnflaagreatdoor", sum := "3d9618a183d1afcd5bc732a4bda586d02d008bb2027143ea083fafcd1144507e", func := "cloak/cloaklaw04.TicketExposes", spec := "ticketExposes", inPlace := ["slices.overlaps[int]", "internal/abi.NoEscape"], unfollowed := true, recurses := true, named := ["math/bits.deBruijn64tab", "math/bits.divideError", "math/bits.overflowError", "internal/strconv.uint64pow10", "math/bits.deBruijn32tab"], apart := false, laid := [("math/bits.deBruijn32tab", laid_math_bits_deBruijn32tab), ("math/bits.deBruijn64tab", laid_math_bits_deBruijn64tab), ("internal/strconv.uint64pow10", laid_internal_strconv_uint64pow10)] }
def TicketExposesSaid : Prop := ticketExposesRow.holds Tryz.pinned (OpenSpec.ofChange ticketExposesSpec)

/-- ITS FALSE NEIGHBOUR: 'it returns false'. Refute it at one input. -/
def ticketExposesWrong : ChangeSpec := { name := "ticketExposes", fn := fun _ => fun
  | [d1, d2, d3, d4] => { results := [.lit (.bool false)], args := [d1, d2, d3, d4] }
  | _ => none }
def TicketExposesWrongFalsely : Prop := ticketExposesRow.holds Tryz.pinned (OpenSpec.ofChange ticketExposesWrong)

/-- 'cloaklaw04.TicketHonest': WHATEVER THE INPUT: true; the input reads as it did. -/
def ticketHonestSpec : ChangeSpec := { name := "ticketHonest", fn := fun _ => fun
  | [d1, d2, d3] => { results := [.lit (.bool true)], args := [d1, d2, d3] }
  | _ => none }
def ticketHonestRow : OpenClaim := { program := "ytpfjmfgnlpnflaagreatdoor", sum := "3d9618a183d1afcd5bc732a4bda586d02d008bb2027143ea083fafcd1144507e", func := "cloak/cloaklaw04.TicketHonest", spec := "ticketHonest", inPlace := ["slices.overlaps[int]", "internal/abi.NoEscape"], unfollowed := true, recurses := true, named := ["math/bits.deBruijn64tab", "math/bits.divideError", "math/bits.overflowError", "internal/strconv.uint64pow10", "math/bits.deBruijn32tab"], apart := false, laid := [("math/bits.deBruijn32tab", laid_math_bits_deBruijn32tab), ("math/bits.deBruijn64tab", laid_math_bits_deBruijn64tab), ("internal/strconv.uint64pow10", laid_internal_strconv_uint64pow10)] }
def TicketHonestSaid : Prop := ticketHonestRow.holds Tryz.pinned (OpenSpec.ofChange ticketHonestSpec)

/-- ITS FALSE NEIGHBOUR: 'it returns false'. Refute it at one input. -/
def ticketHonestWrong : ChangeSpec := { name := "ticketHonest", fn := fun _ => fun
  | [d1, d2, d3] => { results := [.lit (.bool false)], args := [d1, d2, d3] }
  | _ => none }
def TicketHonestWrongFalsely : Prop := ticketHonestRow.holds Tryz.pinned (OpenSpec.ofChange ticketHonestWrong)

/-- 'cloaklaw04.TicketLends': WHATEVER THE INPUT: true; the input reads as it did. -/
def ticketLendsSpec : ChangeSpec := { name := "ticketLends", fn := fun _ => fun
  | [d1, d2, d3, d4, d5, d6] => { results := [.lit (.bool true)], args := [d1, d2, d3, d4, d5, d6] }
  | _ => none }
def ticketLendsRow : OpenClaim := { program := "ytpfjmfgnlpnflaagreatdoor", sum := "3d9618a183d1afcd5bc732a4bda586d02d008bb2027143ea083fafcd1144507e", func := "cloak/cloaklaw04.TicketLends", spec := "ticketLends", inPlace := ["slices.overlaps[int]", "internal/abi.NoEscape"], unfollowed := true, recurses := true, named := ["math/bits.deBruijn64tab", "math/bits.divideError", "math/bits.overflowError", "internal/strconv.uint64pow10", "math/bits.deBruijn32tab"], apart := false, laid := [("math/bits.deBruijn32tab", laid_math_bits_deBruijn32tab), ("math/bits.deBruijn64tab", laid_math_bits_deBruijn64tab), ("internal/strconv.uint64pow10", laid_internal_strconv_uint64pow10)] }
def TicketLendsSaid : Prop := ticketLendsRow.holds Tryz.pinned (OpenSpec.ofChange ticketLendsSpec)

/-- ITS FALSE NEIGHBOUR: 'it returns false'. Refute it at one input. -/
def ticketLendsWrong : ChangeSpec := { name := "ticketLends", fn := fun _ => fun
  | [d1, d2, d3, d4, d5, d6] => { results := [.lit (.bool false)], args := [d1, d2, d3, d4, d5, d6] }
  | _ => none }
def TicketLendsWrongFalsely : Prop := ticketLendsRow.holds Tryz.pinned (OpenSpec.ofChange ticketLendsWrong)

/-- 'cloaklaw04.TicketBlind': WHATEVER THE INPUT: true; the input reads as it did. -/
def ticketBlindSpec : ChangeSpec := { name := "ticketBlind", fn := fun _ => fun
  | [d1, d2, d3, d4, d5, d6] => { results := [.lit (.bool true)], args := [d1, d2, d3, d4, d5, d6] }
  | _ => none }
def ticketBlindRow : OpenClaim := { program := "ytpfjmfgnlpnflaagreatdoor", sum := "3d9618a183d1afcd5bc732a4bda586d02d008bb2027143ea083fafcd1144507e", func := "cloak/cloaklaw04.TicketBlind", spec := "ticketBlind", inPlace := ["slices.overlaps[int]", "internal/abi.NoEscape"], unfollowed := true, recurses := true, named := ["math/bits.deBruijn64tab", "math/bits.divideError", "math/bits.overflowError", "internal/strconv.uint64pow10", "math/bits.deBruijn32tab"], apart := false, laid := [("math/bits.deBruijn32tab", laid_math_bits_deBruijn32tab), ("math/bits.deBruijn64tab", laid_math_bits_deBruijn64tab), ("internal/strconv.uint64pow10", laid_internal_strconv_uint64pow10)] }
def TicketBlindSaid : Prop := ticketBlindRow.holds Tryz.pinned (OpenSpec.ofChange ticketBlindSpec)

/-- ITS FALSE NEIGHBOUR: 'it returns false'. Refute it at one input. -/
def ticketBlindWrong : ChangeSpec := { name := "ticketBlind", fn := fun _ => fun
  | [d1, d2, d3, d4, d5, d6] => { results := [.lit (.bool false)], args := [d1, d2, d3, d4, d5, d6] }
  | _ => none }
def TicketBlindWrongFalsely : Prop := ticketBlindRow.holds Tryz.pinned (OpenSpec.ofChange ticketBlindWrong)

/-- 'cloaklaw04.TicketFollows': WHATEVER THE INPUT: true; the input reads as it did. -/
def ticketFollowsSpec : ChangeSpec := { name := "ticketFollows", fn := fun _ => fun
  | [d1, d2, d3, d4, d5, d6, d7, d8] => { results := [.lit (.bool true)], args := [d1, d2, d3, d4, d5, d6, d7, d8] }
  | _ => none }
def ticketFollowsRow : OpenClaim := { program := "ytpfjmfgnlpnflaagreatdoor", sum := "3d9618a183d1afcd5bc732a4bda586d02d008bb2027143ea083fafcd1144507e", func := "cloak/cloaklaw04.TicketFollows", spec := "ticketFollows", inPlace := ["slices.overlaps[int]", "internal/abi.NoEscape"], unfollowed := true, recurses := true, named := ["math/bits.deBruijn64tab", "math/bits.divideError", "math/bits.overflowError", "internal/strconv.uint64pow10", "math/bits.deBruijn32tab"], apart := false, laid := [("math/bits.deBruijn32tab", laid_math_bits_deBruijn32tab), ("math/bits.deBruijn64tab", laid_math_bits_deBruijn64tab), ("internal/strconv.uint64pow10", laid_internal_strconv_uint64pow10)] }
def TicketFollowsSaid : Prop := ticketFollowsRow.holds Tryz.pinned (OpenSpec.ofChange ticketFollowsSpec)

/-- ITS FALSE NEIGHBOUR: 'it returns false'. Refute it at one input. -/
def ticketFollowsWrong : ChangeSpec := { name := "ticketFollows", fn := fun _ => fun
  | [d1, d2, d3, d4, d5, d6, d7, d8] => { results := [.lit (.bool false)], args := [d1, d2, d3, d4, d5, d6, d7, d8] }
  | _ => none }
def TicketFollowsWrongFalsely : Prop := ticketFollowsRow.holds Tryz.pinned (OpenSpec.ofChange ticketFollowsWrong)

/-- 'cloaklaw04.TicketChecks': WHATEVER THE INPUT: true; the input reads as it did. -/
def ticketChecksSpec : ChangeSpec := { name := "ticketChecks", fn := fun _ => fun
  | [d1, d2, d3, d4, d5, d6, d7, d8] => { results := [.lit (.bool true)], args := [d1, d2, d3, d4, d5, d6, d7, d8] }
  | _ => none }
def ticketChecksRow : OpenClaim := { program := "ytpfjmfgnlpnflaagreatdoor", sum := "3d9618a183d1afcd5bc732a4bda586d02d008bb2027143ea083fafcd1144507e", func := "cloak/cloaklaw04.TicketChecks", spec := "ticketChecks", inPlace := ["slices.overlaps[int]", "internal/abi.NoEscape", "internal/bytealg.IndexByteString"], unfollowed := true, recurses := true, named := ["math/bits.deBruijn64tab", "math/bits.divideError", "math/bits.overflowError", "internal/strconv.uint64pow10", "math/bits.deBruijn32tab", "strconv.ErrSyntax", "strconv.ErrRange"], apart := false, laid := [("math/bits.deBruijn32tab", laid_math_bits_deBruijn32tab), ("math/bits.deBruijn64tab", laid_math_bits_deBruijn64tab), ("internal/strconv.uint64pow10", laid_internal_strconv_uint64pow10), ("strconv.ErrRange", laid_strconv_ErrRange), ("strconv.ErrSyntax", laid_strconv_ErrSyntax)] }
def TicketChecksSaid : Prop := ticketChecksRow.holds Tryz.pinned (OpenSpec.ofChange ticketChecksSpec)

/-- ITS FALSE NEIGHBOUR: 'it returns false'. Refute it at one input. -/
def ticketChecksWrong : ChangeSpec := { name := "ticketChecks", fn := fun _ => fun
  | [d1, d2, d3, d4, d5, d6, d7, d8] => { results := [.lit (.bool false)], args := [d1, d2, d3, d4, d5, d6, d7, d8] }
  | _ => none }
def TicketChecksWrongFalsely : Prop := ticketChecksRow.holds Tryz.pinned (OpenSpec.ofChange ticketChecksWrong)

/- THE SECOND FORM. 'bulk': how many values and letters a reading holds, each counted each time it is reached (what is shared counts as often as it is met; a slice's spare places count too). A statement '..UptoSaid' is the law's where the arguments, and the package variables that the reading takes, are together of bulk at most 1048576: NARROWER than '..Said'. Prove '..Said' where nothing that the law and all that it calls make is longer than what came in: it says more and counts as full. Else prove '..UptoSaid'. A law counts once. -/
mutual
def uptoBulk {H : Type} : DataW H → Nat
  | .lit (.string bytes) => bytes.length + 1
  | .lit _ => 1
  | .nil => 1
  | .ptr d => uptoBulk d + 1
  | .slice elems spare => uptoBulkAll elems + uptoBulkAll spare + 1
  | .agg parts => uptoBulkAll parts + 1
  | .iface _ d => uptoBulk d + 1
  | .map entries => uptoBulkEntries entries + 1
  | .held _ => 1
def uptoBulkAll {H : Type} : List (DataW H) → Nat
  | [] => 0
  | d :: r => uptoBulk d + uptoBulkAll r
def uptoBulkEntries {H : Type} : List (Lit × DataW H) → Nat
  | [] => 0
  | x :: r => uptoBulkEntry x + uptoBulkEntries r
def uptoBulkEntry {H : Type} : Lit × DataW H → Nat
  | (.string bytes, d) => bytes.length + uptoBulk d + 1
  | (_, d) => uptoBulk d + 1
 end
def uptoSmall : (H : Type) → List (DataW H) → Bool := fun _ ds => decide (uptoBulkAll ds ≤ 1048576)
def OpenSpec.upto (s : _root_.Go.ChangeSpec) : _root_.Go.OpenSpec := { _root_.Go.OpenSpec.ofChange s with cond := some uptoSmall }

/-- 'cloaktop.TopMatchings', WHERE WHAT IT READS IS OF BULK AT MOST 1048576: true; the input reads as it did. -/
def topMatchingsUptoRow : OpenClaim := { program := "ytpfjmfgnlpnflaagreatdoor", sum := "3d9618a183d1afcd5bc732a4bda586d02d008bb2027143ea083fafcd1144507e", func := "cloak/cloaktop.TopMatchings", spec := "topMatchings", inPlace := ["slices.overlaps[int]", "internal/abi.NoEscape"], unfollowed := true, recurses := true, named := ["math/bits.divideError", "math/bits.overflowError", "math/bits.deBruijn64tab", "internal/strconv.uint64pow10", "math/bits.deBruijn32tab"], apart := false, laid := [("math/bits.deBruijn32tab", laid_math_bits_deBruijn32tab), ("math/bits.deBruijn64tab", laid_math_bits_deBruijn64tab), ("internal/strconv.uint64pow10", laid_internal_strconv_uint64pow10)], narrowed := true }
def TopMatchingsUptoSaid : Prop := topMatchingsUptoRow.holds Tryz.pinned (OpenSpec.upto topMatchingsSpec)

/-- 'cloaklaw04.TicketSound', WHERE WHAT IT READS IS OF BULK AT MOST 1048576: true; the input reads as it did. -/
def ticketSoundUptoRow : OpenClaim := { program := "ytpfjmfgnlpnflaagreatdoor", sum := "3d9618a183d1afcd5bc732a4bda586d02d008bb2027143ea083fafcd1144507e", func := "cloak/cloaklaw04.TicketSound", spec := "ticketSound", inPlace := ["slices.overlaps[int]", "internal/abi.NoEscape"], unfollowed := true, recurses := true, named := ["math/bits.deBruijn64tab", "math/bits.divideError", "math/bits.overflowError", "internal/strconv.uint64pow10", "math/bits.deBruijn32tab"], apart := false, laid := [("math/bits.deBruijn32tab", laid_math_bits_deBruijn32tab), ("math/bits.deBruijn64tab", laid_math_bits_deBruijn64tab), ("internal/strconv.uint64pow10", laid_internal_strconv_uint64pow10)], narrowed := true }
def TicketSoundUptoSaid : Prop := ticketSoundUptoRow.holds Tryz.pinned (OpenSpec.upto ticketSoundSpec)

/-- 'cloaklaw04.TicketExposes', WHERE WHAT IT READS IS OF BULK AT MOST 1048576: true; the input reads as it did. -/
def ticketExposesUptoRow : OpenClaim := { program := "ytpfjmfgnlpnflaagreatdoor", sum := "3d9618a183d1afcd5bc732a4bda586d02d008bb2027143ea083fafcd1144507e", func := "cloak/cloaklaw04.TicketExposes", spec := "ticketExposes", inPlace := ["slices.overlaps[int]", "internal/abi.NoEscape"], unfollowed := true, recurses := true, named := ["math/bits.deBruijn64tab", "math/bits.divideError", "math/bits.overflowError", "internal/strconv.uint64pow10", "math/bits.deBruijn32tab"], apart := false, laid := [("math/bits.deBruijn32tab", laid_math_bits_deBruijn32tab), ("math/bits.deBruijn64tab", laid_math_bits_deBruijn64tab), ("internal/strconv.uint64pow10", laid_internal_strconv_uint64pow10)], narrowed := true }
def TicketExposesUptoSaid : Prop := ticketExposesUptoRow.holds Tryz.pinned (OpenSpec.upto ticketExposesSpec)

/-- 'cloaklaw04.TicketHonest', WHERE WHAT IT READS IS OF BULK AT MOST 1048576: true; the input reads as it did. -/
def ticketHonestUptoRow : OpenClaim := { program := "ytpfjmfgnlpnflaagreatdoor", sum := "3d9618a183d1afcd5bc732a4bda586d02d008bb2027143ea083fafcd1144507e", func := "cloak/cloaklaw04.TicketHonest", spec := "ticketHonest", inPlace := ["slices.overlaps[int]", "internal/abi.NoEscape"], unfollowed := true, recurses := true, named := ["math/bits.deBruijn64tab", "math/bits.divideError", "math/bits.overflowError", "internal/strconv.uint64pow10", "math/bits.deBruijn32tab"], apart := false, laid := [("math/bits.deBruijn32tab", laid_math_bits_deBruijn32tab), ("math/bits.deBruijn64tab", laid_math_bits_deBruijn64tab), ("internal/strconv.uint64pow10", laid_internal_strconv_uint64pow10)], narrowed := true }
def TicketHonestUptoSaid : Prop := ticketHonestUptoRow.holds Tryz.pinned (OpenSpec.upto ticketHonestSpec)

/-- 'cloaklaw04.TicketLends', WHERE WHAT IT READS IS OF BULK AT MOST 1048576: true; the input reads as it did. -/
def ticketLendsUptoRow : OpenClaim := { program := "ytpfjmfgnlpnflaagreatdoor", sum := "3d9618a183d1afcd5bc732a4bda586d02d008bb2027143ea083fafcd1144507e", func := "cloak/cloaklaw04.TicketLends", spec := "ticketLends", inPlace := ["slices.overlaps[int]", "internal/abi.NoEscape"], unfollowed := true, recurses := true, named := ["math/bits.deBruijn64tab", "math/bits.divideError", "math/bits.overflowError", "internal/strconv.uint64pow10", "math/bits.deBruijn32tab"], apart := false, laid := [("math/bits.deBruijn32tab", laid_math_bits_deBruijn32tab), ("math/bits.deBruijn64tab", laid_math_bits_deBruijn64tab), ("internal/strconv.uint64pow10", laid_internal_strconv_uint64pow10)], narrowed := true }
def TicketLendsUptoSaid : Prop := ticketLendsUptoRow.holds Tryz.pinned (OpenSpec.upto ticketLendsSpec)

/-- 'cloaklaw04.TicketBlind', WHERE WHAT IT READS IS OF BULK AT MOST 1048576: true; the input reads as it did. -/
def ticketBlindUptoRow : OpenClaim := { program := "ytpfjmfgnlpnflaagreatdoor", sum := "3d9618a183d1afcd5bc732a4bda586d02d008bb2027143ea083fafcd1144507e", func := "cloak/cloaklaw04.TicketBlind", spec := "ticketBlind", inPlace := ["slices.overlaps[int]", "internal/abi.NoEscape"], unfollowed := true, recurses := true, named := ["math/bits.deBruijn64tab", "math/bits.divideError", "math/bits.overflowError", "internal/strconv.uint64pow10", "math/bits.deBruijn32tab"], apart := false, laid := [("math/bits.deBruijn32tab", laid_math_bits_deBruijn32tab), ("math/bits.deBruijn64tab", laid_math_bits_deBruijn64tab), ("internal/strconv.uint64pow10", laid_internal_strconv_uint64pow10)], narrowed := true }
def TicketBlindUptoSaid : Prop := ticketBlindUptoRow.holds Tryz.pinned (OpenSpec.upto ticketBlindSpec)

/-- 'cloaklaw04.TicketFollows', WHERE WHAT IT READS IS OF BULK AT MOST 1048576: true; the input reads as it did. -/
def ticketFollowsUptoRow : OpenClaim := { program := "ytpfjmfgnlpnflaagreatdoor", sum := "3d9618a183d1afcd5bc732a4bda586d02d008bb2027143ea083fafcd1144507e", func := "cloak/cloaklaw04.TicketFollows", spec := "ticketFollows", inPlace := ["slices.overlaps[int]", "internal/abi.NoEscape"], unfollowed := true, recurses := true, named := ["math/bits.deBruijn64tab", "math/bits.divideError", "math/bits.overflowError", "internal/strconv.uint64pow10", "math/bits.deBruijn32tab"], apart := false, laid := [("math/bits.deBruijn32tab", laid_math_bits_deBruijn32tab), ("math/bits.deBruijn64tab", laid_math_bits_deBruijn64tab), ("internal/strconv.uint64pow10", laid_internal_strconv_uint64pow10)], narrowed := true }
def TicketFollowsUptoSaid : Prop := ticketFollowsUptoRow.holds Tryz.pinned (OpenSpec.upto ticketFollowsSpec)

/-- 'cloaklaw04.TicketChecks', WHERE WHAT IT READS IS OF BULK AT MOST 1048576: true; the input reads as it did. -/
def ticketChecksUptoRow : OpenClaim := { program := "ytpfjmfgnlpnflaagreatdoor", sum := "3d9618a183d1afcd5bc732a4bda586d02d008bb2027143ea083fafcd1144507e", func := "cloak/cloaklaw04.TicketChecks", spec := "ticketChecks", inPlace := ["slices.overlaps[int]", "internal/abi.NoEscape", "internal/bytealg.IndexByteString"], unfollowed := true, recurses := true, named := ["math/bits.deBruijn64tab", "math/bits.divideError", "math/bits.overflowError", "internal/strconv.uint64pow10", "math/bits.deBruijn32tab", "strconv.ErrSyntax", "strconv.ErrRange"], apart := false, laid := [("math/bits.deBruijn32tab", laid_math_bits_deBruijn32tab), ("math/bits.deBruijn64tab", laid_math_bits_deBruijn64tab), ("internal/strconv.uint64pow10", laid_internal_strconv_uint64pow10), ("strconv.ErrRange", laid_strconv_ErrRange), ("strconv.ErrSyntax", laid_strconv_ErrSyntax)], narrowed := true }
def TicketChecksUptoSaid : Prop := ticketChecksUptoRow.holds Tryz.pinned (OpenSpec.upto ticketChecksSpec)

end Rows
end Go.Proofs.YtpfjmfgnlpnflaaGreatDoor
