/-
  No cell of these rows narrows 'for every input' (looked for: loops, veiled, ifaces, maps, wideKeys, modest, calm, conditions, laid).
  DERIVED. THE GIVEN ROWS OF THIS SEAT. 4 by the template 'for every input the law returns true; each argument reads behind the call as it read before'; 0 by the template 'total and deterministic' (their statements: YtefjibjojkjiiaaTotals.lean).
  GIVEN WITH THE SEED: the statements are not yours to turn. If you find one false, say at which input.
  Laid BY PROGRAM, IN A SANDBOX (cutbox-rows.mjs): the forced cells as the released guide's own fill.sh prints them over the translation 766dbaf29abed972… (all of the seat's roots in one cut). By AI agents, Wed Nov 11 2026. No macro, syntax, notation, axiom, sorry.
-/
import Derived.Test.YtefjibjojkjiiaaChecked
import GoSem.Claim
import GoSem.ClaimJoined
import GoSem.ClaimMapViews
import Derived.JoinedTies
import Derived.KernelRfl
namespace Go.Proofs.Ytefjibjojkjiiaa
/- THE CELL 'sum', in the pinned program and in every row, IS THE sha256 OF THE DUMP (.gsa) THAT YtefjibjojkjiiaaProg.lean LOADS. Nothing in Lean hashes anything: it is a label: what it is worth is what the hold of that sum in a sandbox is worth. -/
noncomputable def Try.pinned : Pinned := { name := "ytefjibjojkjiiaa", sum := "766dbaf29abed9725993b907aa80d690021a89a4e0de64486ebb10eb08379586", checked := Try.checked }
namespace Rows
def none {H : Type} : Left H := { results := [], args := [] }

/-- 'cloaklaw01.BaseDisk': WHATEVER THE INPUT: true; the input reads as it did. -/
def baseDiskSpec : ChangeSpec := { name := "baseDisk", fn := fun _ => fun
  | [d1, d2, d3, d4] => { results := [.lit (.bool true)], args := [d1, d2, d3, d4] }
  | _ => none }
def baseDiskRow : OpenClaim := { program := "ytefjibjojkjiiaa", sum := "766dbaf29abed9725993b907aa80d690021a89a4e0de64486ebb10eb08379586", func := "cloak/cloaklaw01.BaseDisk", spec := "baseDisk", inPlace := ["maps.clone"], unfollowed := true, recurses := true, plainKeys := false, apart := false }
def BaseDiskSaid : Prop := baseDiskRow.holds Try.pinned (OpenSpec.ofChange baseDiskSpec)

/-- ITS FALSE NEIGHBOUR: 'it returns false'. Refute it at one input. -/
def baseDiskWrong : ChangeSpec := { name := "baseDisk", fn := fun _ => fun
  | [d1, d2, d3, d4] => { results := [.lit (.bool false)], args := [d1, d2, d3, d4] }
  | _ => none }
def BaseDiskWrongFalsely : Prop := baseDiskRow.holds Try.pinned (OpenSpec.ofChange baseDiskWrong)

/-- 'cloaklaw01.BaseSurvives': WHATEVER THE INPUT: true; the input reads as it did. -/
def baseSurvivesSpec : ChangeSpec := { name := "baseSurvives", fn := fun _ => fun
  | [d1, d2, d3] => { results := [.lit (.bool true)], args := [d1, d2, d3] }
  | _ => none }
def baseSurvivesRow : OpenClaim := { program := "ytefjibjojkjiiaa", sum := "766dbaf29abed9725993b907aa80d690021a89a4e0de64486ebb10eb08379586", func := "cloak/cloaklaw01.BaseSurvives", spec := "baseSurvives", inPlace := ["maps.clone"], unfollowed := true, recurses := true, plainKeys := false, apart := false }
def BaseSurvivesSaid : Prop := baseSurvivesRow.holds Try.pinned (OpenSpec.ofChange baseSurvivesSpec)

/-- ITS FALSE NEIGHBOUR: 'it returns false'. Refute it at one input. -/
def baseSurvivesWrong : ChangeSpec := { name := "baseSurvives", fn := fun _ => fun
  | [d1, d2, d3] => { results := [.lit (.bool false)], args := [d1, d2, d3] }
  | _ => none }
def BaseSurvivesWrongFalsely : Prop := baseSurvivesRow.holds Try.pinned (OpenSpec.ofChange baseSurvivesWrong)

/-- 'cloaklaw01.BaseSynced': WHATEVER THE INPUT: true; the input reads as it did. -/
def baseSyncedSpec : ChangeSpec := { name := "baseSynced", fn := fun _ => fun
  | [d1, d2, d3, d4] => { results := [.lit (.bool true)], args := [d1, d2, d3, d4] }
  | _ => none }
def baseSyncedRow : OpenClaim := { program := "ytefjibjojkjiiaa", sum := "766dbaf29abed9725993b907aa80d690021a89a4e0de64486ebb10eb08379586", func := "cloak/cloaklaw01.BaseSynced", spec := "baseSynced", inPlace := ["maps.clone"], unfollowed := true, recurses := true, plainKeys := false, apart := false }
def BaseSyncedSaid : Prop := baseSyncedRow.holds Try.pinned (OpenSpec.ofChange baseSyncedSpec)

/-- ITS FALSE NEIGHBOUR: 'it returns false'. Refute it at one input. -/
def baseSyncedWrong : ChangeSpec := { name := "baseSynced", fn := fun _ => fun
  | [d1, d2, d3, d4] => { results := [.lit (.bool false)], args := [d1, d2, d3, d4] }
  | _ => none }
def BaseSyncedWrongFalsely : Prop := baseSyncedRow.holds Try.pinned (OpenSpec.ofChange baseSyncedWrong)

/-- 'cloaklaw01.BaseArms': WHATEVER THE INPUT: true; the input reads as it did. -/
def baseArmsSpec : ChangeSpec := { name := "baseArms", fn := fun _ => fun
  | [d1, d2, d3] => { results := [.lit (.bool true)], args := [d1, d2, d3] }
  | _ => none }
def baseArmsRow : OpenClaim := { program := "ytefjibjojkjiiaa", sum := "766dbaf29abed9725993b907aa80d690021a89a4e0de64486ebb10eb08379586", func := "cloak/cloaklaw01.BaseArms", spec := "baseArms", inPlace := ["maps.clone"], unfollowed := true, recurses := true, plainKeys := false, apart := false }
def BaseArmsSaid : Prop := baseArmsRow.holds Try.pinned (OpenSpec.ofChange baseArmsSpec)

/-- ITS FALSE NEIGHBOUR: 'it returns false'. Refute it at one input. -/
def baseArmsWrong : ChangeSpec := { name := "baseArms", fn := fun _ => fun
  | [d1, d2, d3] => { results := [.lit (.bool false)], args := [d1, d2, d3] }
  | _ => none }
def BaseArmsWrongFalsely : Prop := baseArmsRow.holds Try.pinned (OpenSpec.ofChange baseArmsWrong)

/- THE SECOND FORM. 'bulk': how many values and letters a reading holds, each counted each time it is reached (what is shared counts as often as it is met; a slice's spare places count too). A statement '..UptoSaid' is the law's where the arguments, and the package variables that the reading takes, are together of bulk at most 1048576: NARROWER than '..Said'. Prove '..Said' where nothing that the law and all that it calls make is longer than what came in: it says more and counts as full. Else prove '..UptoSaid'. A law counts once. -/
mutual
def uptoBulk {H : Type} : DataW H → Nat
  | .lit (.string bytes) => bytes.length + 1
  | .lit _ => 1
  | .nil => 1
  | .ptr d => uptoBulk d + 1
  | .slice elems spare => uptoBulkAll elems + uptoBulkAll spare + 1
  | .agg parts => uptoBulkAll parts + 1
  | .iface _ d => uptoBulk d + 1
  | .map entries => uptoBulkEntries entries + 1
  | .held _ => 1
def uptoBulkAll {H : Type} : List (DataW H) → Nat
  | [] => 0
  | d :: r => uptoBulk d + uptoBulkAll r
def uptoBulkEntries {H : Type} : List (Lit × DataW H) → Nat
  | [] => 0
  | x :: r => uptoBulkEntry x + uptoBulkEntries r
def uptoBulkEntry {H : Type} : Lit × DataW H → Nat
  | (.string bytes, d) => bytes.length + uptoBulk d + 1
  | (_, d) => uptoBulk d + 1
 end
def uptoSmall : (H : Type) → List (DataW H) → Bool := fun _ ds => decide (uptoBulkAll ds ≤ 1048576)
def OpenSpec.upto (s : _root_.Go.ChangeSpec) : _root_.Go.OpenSpec := { _root_.Go.OpenSpec.ofChange s with cond := some uptoSmall }

/-- 'cloaklaw01.BaseDisk', WHERE WHAT IT READS IS OF BULK AT MOST 1048576: true; the input reads as it did. -/
def baseDiskUptoRow : OpenClaim := { program := "ytefjibjojkjiiaa", sum := "766dbaf29abed9725993b907aa80d690021a89a4e0de64486ebb10eb08379586", func := "cloak/cloaklaw01.BaseDisk", spec := "baseDisk", inPlace := ["maps.clone"], unfollowed := true, recurses := true, plainKeys := false, apart := false, narrowed := true }
def BaseDiskUptoSaid : Prop := baseDiskUptoRow.holds Try.pinned (OpenSpec.upto baseDiskSpec)

/-- 'cloaklaw01.BaseSurvives', WHERE WHAT IT READS IS OF BULK AT MOST 1048576: true; the input reads as it did. -/
def baseSurvivesUptoRow : OpenClaim := { program := "ytefjibjojkjiiaa", sum := "766dbaf29abed9725993b907aa80d690021a89a4e0de64486ebb10eb08379586", func := "cloak/cloaklaw01.BaseSurvives", spec := "baseSurvives", inPlace := ["maps.clone"], unfollowed := true, recurses := true, plainKeys := false, apart := false, narrowed := true }
def BaseSurvivesUptoSaid : Prop := baseSurvivesUptoRow.holds Try.pinned (OpenSpec.upto baseSurvivesSpec)

/-- 'cloaklaw01.BaseSynced', WHERE WHAT IT READS IS OF BULK AT MOST 1048576: true; the input reads as it did. -/
def baseSyncedUptoRow : OpenClaim := { program := "ytefjibjojkjiiaa", sum := "766dbaf29abed9725993b907aa80d690021a89a4e0de64486ebb10eb08379586", func := "cloak/cloaklaw01.BaseSynced", spec := "baseSynced", inPlace := ["maps.clone"], unfollowed := true, recurses := true, plainKeys := false, apart := false, narrowed := true }
def BaseSyncedUptoSaid : Prop := baseSyncedUptoRow.holds Try.pinned (OpenSpec.upto baseSyncedSpec)

/-- 'cloaklaw01.BaseArms', WHERE WHAT IT READS IS OF BULK AT MOST 1048576: true; the input reads as it did. -/
def baseArmsUptoRow : OpenClaim := { program := "ytefjibjojkjiiaa", sum := "766dbaf29abed9725993b907aa80d690021a89a4e0de64486ebb10eb08379586", func := "cloak/cloaklaw01.BaseArms", spec := "baseArms", inPlace := ["maps.clone"], unfollowed := true, recurses := true, plainKeys := false, apart := false, narrowed := true }
def BaseArmsUptoSaid : Prop := baseArmsUptoRow.holds Try.pinned (OpenSpec.upto baseArmsSpec)

end Rows
end Go.Proofs.Ytefjibjojkjiiaa
