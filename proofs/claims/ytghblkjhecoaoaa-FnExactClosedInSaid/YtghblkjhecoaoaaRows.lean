/-
  No cell of these rows narrows 'for every input' (looked for: loops, veiled, ifaces, maps, wideKeys, modest, calm, conditions, laid).
  DERIVED. THE GIVEN ROWS OF THIS SEAT. 12 by the template 'for every input the law returns true; each argument reads behind the call as it read before'; 0 by the template 'total and deterministic' (their statements: YtghblkjhecoaoaaTotals.lean).
  GIVEN WITH THE SEED: the statements are not yours to turn. If you find one false, say at which input.
  Laid BY PROGRAM, IN A SANDBOX (cutbox-rows.mjs): the forced cells as the released guide's own fill.sh prints them over the translation 4cd4e98d2d438e95… (all of the seat's roots in one cut). By AI agents, Wed Nov 11 2026. No macro, syntax, notation, axiom, sorry.
-/
import Derived.Test.YtghblkjhecoaoaaChecked
import GoSem.Claim
import GoSem.ClaimJoined
import GoSem.ClaimMapViews
import Derived.JoinedTies
import Derived.KernelRfl
namespace Go.Proofs.Ytghblkjhecoaoaa
/- THE CELL 'sum', in the pinned program and in every row, IS THE sha256 OF THE DUMP (.gsa) THAT YtghblkjhecoaoaaProg.lean LOADS. Nothing in Lean hashes anything: it is a label: what it is worth is what the hold of that sum in a sandbox is worth. -/
noncomputable def Try.pinned : Pinned := { name := "ytghblkjhecoaoaa", sum := "4cd4e98d2d438e95205688c807f21ff4bff6ba2aa9bf50ab3e4a8c979d5b2ee8", checked := Try.checked }
namespace Rows
def none {H : Type} : Left H := { results := [], args := [] }

/-- 'laws.FnExactGoodGraph': WHATEVER THE INPUT: true; the input reads as it did. -/
def fnExactGoodGraphSpec : ChangeSpec := { name := "fnExactGoodGraph", fn := fun _ => fun
  | [d] => { results := [.lit (.bool true)], args := [d] }
  | _ => none }
def fnExactGoodGraphRow : OpenClaim := { program := "ytghblkjhecoaoaa", sum := "4cd4e98d2d438e95205688c807f21ff4bff6ba2aa9bf50ab3e4a8c979d5b2ee8", func := "loop.example/g00698/laws.FnExactGoodGraph", spec := "fnExactGoodGraph", unfollowed := true, recurses := true, apart := false }
def FnExactGoodGraphSaid : Prop := fnExactGoodGraphRow.holds Try.pinned (OpenSpec.ofChange fnExactGoodGraphSpec)

/-- ITS FALSE NEIGHBOUR: 'it returns false'. Refute it at one input. -/
def fnExactGoodGraphWrong : ChangeSpec := { name := "fnExactGoodGraph", fn := fun _ => fun
  | [d] => { results := [.lit (.bool false)], args := [d] }
  | _ => none }
def FnExactGoodGraphWrongFalsely : Prop := fnExactGoodGraphRow.holds Try.pinned (OpenSpec.ofChange fnExactGoodGraphWrong)

/-- 'laws.FnExactReachedFrom': WHATEVER THE INPUT: true; the input reads as it did. -/
def fnExactReachedFromSpec : ChangeSpec := { name := "fnExactReachedFrom", fn := fun _ => fun
  | [d1, d2] => { results := [.lit (.bool true)], args := [d1, d2] }
  | _ => none }
def fnExactReachedFromRow : OpenClaim := { program := "ytghblkjhecoaoaa", sum := "4cd4e98d2d438e95205688c807f21ff4bff6ba2aa9bf50ab3e4a8c979d5b2ee8", func := "loop.example/g00698/laws.FnExactReachedFrom", spec := "fnExactReachedFrom", unfollowed := true, recurses := true, apart := false }
def FnExactReachedFromSaid : Prop := fnExactReachedFromRow.holds Try.pinned (OpenSpec.ofChange fnExactReachedFromSpec)

/-- ITS FALSE NEIGHBOUR: 'it returns false'. Refute it at one input. -/
def fnExactReachedFromWrong : ChangeSpec := { name := "fnExactReachedFrom", fn := fun _ => fun
  | [d1, d2] => { results := [.lit (.bool false)], args := [d1, d2] }
  | _ => none }
def FnExactReachedFromWrongFalsely : Prop := fnExactReachedFromRow.holds Try.pinned (OpenSpec.ofChange fnExactReachedFromWrong)

/-- 'laws.FnExactComponentsOf': WHATEVER THE INPUT: true; the input reads as it did. -/
def fnExactComponentsOfSpec : ChangeSpec := { name := "fnExactComponentsOf", fn := fun _ => fun
  | [d] => { results := [.lit (.bool true)], args := [d] }
  | _ => none }
def fnExactComponentsOfRow : OpenClaim := { program := "ytghblkjhecoaoaa", sum := "4cd4e98d2d438e95205688c807f21ff4bff6ba2aa9bf50ab3e4a8c979d5b2ee8", func := "loop.example/g00698/laws.FnExactComponentsOf", spec := "fnExactComponentsOf", unfollowed := true, recurses := true, apart := false }
def FnExactComponentsOfSaid : Prop := fnExactComponentsOfRow.holds Try.pinned (OpenSpec.ofChange fnExactComponentsOfSpec)

/-- ITS FALSE NEIGHBOUR: 'it returns false'. Refute it at one input. -/
def fnExactComponentsOfWrong : ChangeSpec := { name := "fnExactComponentsOf", fn := fun _ => fun
  | [d] => { results := [.lit (.bool false)], args := [d] }
  | _ => none }
def FnExactComponentsOfWrongFalsely : Prop := fnExactComponentsOfRow.holds Try.pinned (OpenSpec.ofChange fnExactComponentsOfWrong)

/-- 'laws.FnExactClosedIn': WHATEVER THE INPUT: true; the input reads as it did. -/
def fnExactClosedInSpec : ChangeSpec := { name := "fnExactClosedIn", fn := fun _ => fun
  | [d1, d2] => { results := [.lit (.bool true)], args := [d1, d2] }
  | _ => none }
def fnExactClosedInRow : OpenClaim := { program := "ytghblkjhecoaoaa", sum := "4cd4e98d2d438e95205688c807f21ff4bff6ba2aa9bf50ab3e4a8c979d5b2ee8", func := "loop.example/g00698/laws.FnExactClosedIn", spec := "fnExactClosedIn", unfollowed := true, recurses := true, apart := false }
def FnExactClosedInSaid : Prop := fnExactClosedInRow.holds Try.pinned (OpenSpec.ofChange fnExactClosedInSpec)

/-- ITS FALSE NEIGHBOUR: 'it returns false'. Refute it at one input. -/
def fnExactClosedInWrong : ChangeSpec := { name := "fnExactClosedIn", fn := fun _ => fun
  | [d1, d2] => { results := [.lit (.bool false)], args := [d1, d2] }
  | _ => none }
def FnExactClosedInWrongFalsely : Prop := fnExactClosedInRow.holds Try.pinned (OpenSpec.ofChange fnExactClosedInWrong)

/-- 'laws.FnExactOrderOf': WHATEVER THE INPUT: true; the input reads as it did. -/
def fnExactOrderOfSpec : ChangeSpec := { name := "fnExactOrderOf", fn := fun _ => fun
  | [d1, d2] => { results := [.lit (.bool true)], args := [d1, d2] }
  | _ => none }
def fnExactOrderOfRow : OpenClaim := { program := "ytghblkjhecoaoaa", sum := "4cd4e98d2d438e95205688c807f21ff4bff6ba2aa9bf50ab3e4a8c979d5b2ee8", func := "loop.example/g00698/laws.FnExactOrderOf", spec := "fnExactOrderOf", unfollowed := true, recurses := true, apart := false }
def FnExactOrderOfSaid : Prop := fnExactOrderOfRow.holds Try.pinned (OpenSpec.ofChange fnExactOrderOfSpec)

/-- ITS FALSE NEIGHBOUR: 'it returns false'. Refute it at one input. -/
def fnExactOrderOfWrong : ChangeSpec := { name := "fnExactOrderOf", fn := fun _ => fun
  | [d1, d2] => { results := [.lit (.bool false)], args := [d1, d2] }
  | _ => none }
def FnExactOrderOfWrongFalsely : Prop := fnExactOrderOfRow.holds Try.pinned (OpenSpec.ofChange fnExactOrderOfWrong)

/-- 'laws.FnExactIsOrder': WHATEVER THE INPUT: true; the input reads as it did. -/
def fnExactIsOrderSpec : ChangeSpec := { name := "fnExactIsOrder", fn := fun _ => fun
  | [d1, d2, d3] => { results := [.lit (.bool true)], args := [d1, d2, d3] }
  | _ => none }
def fnExactIsOrderRow : OpenClaim := { program := "ytghblkjhecoaoaa", sum := "4cd4e98d2d438e95205688c807f21ff4bff6ba2aa9bf50ab3e4a8c979d5b2ee8", func := "loop.example/g00698/laws.FnExactIsOrder", spec := "fnExactIsOrder", unfollowed := true, recurses := true, apart := false }
def FnExactIsOrderSaid : Prop := fnExactIsOrderRow.holds Try.pinned (OpenSpec.ofChange fnExactIsOrderSpec)

/-- ITS FALSE NEIGHBOUR: 'it returns false'. Refute it at one input. -/
def fnExactIsOrderWrong : ChangeSpec := { name := "fnExactIsOrder", fn := fun _ => fun
  | [d1, d2, d3] => { results := [.lit (.bool false)], args := [d1, d2, d3] }
  | _ => none }
def FnExactIsOrderWrongFalsely : Prop := fnExactIsOrderRow.holds Try.pinned (OpenSpec.ofChange fnExactIsOrderWrong)

/-- 'laws.FnComponents': WHATEVER THE INPUT: true; the input reads as it did. -/
def fnComponentsSpec : ChangeSpec := { name := "fnComponents", fn := fun _ => fun
  | [d1, d2] => { results := [.lit (.bool true)], args := [d1, d2] }
  | _ => none }
def fnComponentsRow : OpenClaim := { program := "ytghblkjhecoaoaa", sum := "4cd4e98d2d438e95205688c807f21ff4bff6ba2aa9bf50ab3e4a8c979d5b2ee8", func := "loop.example/g00698/laws.FnComponents", spec := "fnComponents", unfollowed := true, recurses := true, apart := false }
def FnComponentsSaid : Prop := fnComponentsRow.holds Try.pinned (OpenSpec.ofChange fnComponentsSpec)

/-- ITS FALSE NEIGHBOUR: 'it returns false'. Refute it at one input. -/
def fnComponentsWrong : ChangeSpec := { name := "fnComponents", fn := fun _ => fun
  | [d1, d2] => { results := [.lit (.bool false)], args := [d1, d2] }
  | _ => none }
def FnComponentsWrongFalsely : Prop := fnComponentsRow.holds Try.pinned (OpenSpec.ofChange fnComponentsWrong)

/-- 'laws.FnOrders': WHATEVER THE INPUT: true; the input reads as it did. -/
def fnOrdersSpec : ChangeSpec := { name := "fnOrders", fn := fun _ => fun
  | [d1, d2] => { results := [.lit (.bool true)], args := [d1, d2] }
  | _ => none }
def fnOrdersRow : OpenClaim := { program := "ytghblkjhecoaoaa", sum := "4cd4e98d2d438e95205688c807f21ff4bff6ba2aa9bf50ab3e4a8c979d5b2ee8", func := "loop.example/g00698/laws.FnOrders", spec := "fnOrders", unfollowed := true, recurses := true, apart := false }
def FnOrdersSaid : Prop := fnOrdersRow.holds Try.pinned (OpenSpec.ofChange fnOrdersSpec)

/-- ITS FALSE NEIGHBOUR: 'it returns false'. Refute it at one input. -/
def fnOrdersWrong : ChangeSpec := { name := "fnOrders", fn := fun _ => fun
  | [d1, d2] => { results := [.lit (.bool false)], args := [d1, d2] }
  | _ => none }
def FnOrdersWrongFalsely : Prop := fnOrdersRow.holds Try.pinned (OpenSpec.ofChange fnOrdersWrong)

/-- 'laws.FnExactSetsOf': WHATEVER THE INPUT: true; the input reads as it did. -/
def fnExactSetsOfSpec : ChangeSpec := { name := "fnExactSetsOf", fn := fun _ => fun
  | [d1, d2] => { results := [.lit (.bool true)], args := [d1, d2] }
  | _ => none }
def fnExactSetsOfRow : OpenClaim := { program := "ytghblkjhecoaoaa", sum := "4cd4e98d2d438e95205688c807f21ff4bff6ba2aa9bf50ab3e4a8c979d5b2ee8", func := "loop.example/g00698/laws.FnExactSetsOf", spec := "fnExactSetsOf", recurses := true, apart := false }
def FnExactSetsOfSaid : Prop := fnExactSetsOfRow.holds Try.pinned (OpenSpec.ofChange fnExactSetsOfSpec)

/-- ITS FALSE NEIGHBOUR: 'it returns false'. Refute it at one input. -/
def fnExactSetsOfWrong : ChangeSpec := { name := "fnExactSetsOf", fn := fun _ => fun
  | [d1, d2] => { results := [.lit (.bool false)], args := [d1, d2] }
  | _ => none }
def FnExactSetsOfWrongFalsely : Prop := fnExactSetsOfRow.holds Try.pinned (OpenSpec.ofChange fnExactSetsOfWrong)

/-- 'laws.FnExactWithoutOnes': WHATEVER THE INPUT: true; the input reads as it did. -/
def fnExactWithoutOnesSpec : ChangeSpec := { name := "fnExactWithoutOnes", fn := fun _ => fun
  | [d1, d2] => { results := [.lit (.bool true)], args := [d1, d2] }
  | _ => none }
def fnExactWithoutOnesRow : OpenClaim := { program := "ytghblkjhecoaoaa", sum := "4cd4e98d2d438e95205688c807f21ff4bff6ba2aa9bf50ab3e4a8c979d5b2ee8", func := "loop.example/g00698/laws.FnExactWithoutOnes", spec := "fnExactWithoutOnes", unfollowed := true, recurses := true, apart := false }
def FnExactWithoutOnesSaid : Prop := fnExactWithoutOnesRow.holds Try.pinned (OpenSpec.ofChange fnExactWithoutOnesSpec)

/-- ITS FALSE NEIGHBOUR: 'it returns false'. Refute it at one input. -/
def fnExactWithoutOnesWrong : ChangeSpec := { name := "fnExactWithoutOnes", fn := fun _ => fun
  | [d1, d2] => { results := [.lit (.bool false)], args := [d1, d2] }
  | _ => none }
def FnExactWithoutOnesWrongFalsely : Prop := fnExactWithoutOnesRow.holds Try.pinned (OpenSpec.ofChange fnExactWithoutOnesWrong)

/-- 'laws.FnExactLeastMeeting': WHATEVER THE INPUT: true; the input reads as it did. -/
def fnExactLeastMeetingSpec : ChangeSpec := { name := "fnExactLeastMeeting", fn := fun _ => fun
  | [d] => { results := [.lit (.bool true)], args := [d] }
  | _ => none }
def fnExactLeastMeetingRow : OpenClaim := { program := "ytghblkjhecoaoaa", sum := "4cd4e98d2d438e95205688c807f21ff4bff6ba2aa9bf50ab3e4a8c979d5b2ee8", func := "loop.example/g00698/laws.FnExactLeastMeeting", spec := "fnExactLeastMeeting", unfollowed := true, recurses := true, apart := false }
def FnExactLeastMeetingSaid : Prop := fnExactLeastMeetingRow.holds Try.pinned (OpenSpec.ofChange fnExactLeastMeetingSpec)

/-- ITS FALSE NEIGHBOUR: 'it returns false'. Refute it at one input. -/
def fnExactLeastMeetingWrong : ChangeSpec := { name := "fnExactLeastMeeting", fn := fun _ => fun
  | [d] => { results := [.lit (.bool false)], args := [d] }
  | _ => none }
def FnExactLeastMeetingWrongFalsely : Prop := fnExactLeastMeetingRow.holds Try.pinned (OpenSpec.ofChange fnExactLeastMeetingWrong)

/-- 'laws.FnExactAllMeet': WHATEVER THE INPUT: true; the input reads as it did. -/
def fnExactAllMeetSpec : ChangeSpec := { name := "fnExactAllMeet", fn := fun _ => fun
  | [d1, d2] => { results := [.lit (.bool true)], args := [d1, d2] }
  | _ => none }
def fnExactAllMeetRow : OpenClaim := { program := "ytghblkjhecoaoaa", sum := "4cd4e98d2d438e95205688c807f21ff4bff6ba2aa9bf50ab3e4a8c979d5b2ee8", func := "loop.example/g00698/laws.FnExactAllMeet", spec := "fnExactAllMeet", unfollowed := true, recurses := true, apart := false }
def FnExactAllMeetSaid : Prop := fnExactAllMeetRow.holds Try.pinned (OpenSpec.ofChange fnExactAllMeetSpec)

/-- ITS FALSE NEIGHBOUR: 'it returns false'. Refute it at one input. -/
def fnExactAllMeetWrong : ChangeSpec := { name := "fnExactAllMeet", fn := fun _ => fun
  | [d1, d2] => { results := [.lit (.bool false)], args := [d1, d2] }
  | _ => none }
def FnExactAllMeetWrongFalsely : Prop := fnExactAllMeetRow.holds Try.pinned (OpenSpec.ofChange fnExactAllMeetWrong)

/- THE SECOND FORM. 'bulk': how many values and letters a reading holds, each counted each time it is reached (what is shared counts as often as it is met; a slice's spare places count too). A statement '..UptoSaid' is the law's where the arguments, and the package variables that the reading takes, are together of bulk at most 1048576: NARROWER than '..Said'. Prove '..Said' where nothing that the law and all that it calls make is longer than what came in: it says more and counts as full. Else prove '..UptoSaid'. A law counts once. -/
mutual
def uptoBulk {H : Type} : DataW H → Nat
  | .lit (.string bytes) => bytes.length + 1
  | .lit _ => 1
  | .nil => 1
  | .ptr d => uptoBulk d + 1
  | .slice elems spare => uptoBulkAll elems + uptoBulkAll spare + 1
  | .agg parts => uptoBulkAll parts + 1
  | .iface _ d => uptoBulk d + 1
  | .map entries => uptoBulkEntries entries + 1
  | .held _ => 1
def uptoBulkAll {H : Type} : List (DataW H) → Nat
  | [] => 0
  | d :: r => uptoBulk d + uptoBulkAll r
def uptoBulkEntries {H : Type} : List (Lit × DataW H) → Nat
  | [] => 0
  | x :: r => uptoBulkEntry x + uptoBulkEntries r
def uptoBulkEntry {H : Type} : Lit × DataW H → Nat
  | (.string bytes, d) => bytes.length + uptoBulk d + 1
  | (_, d) => uptoBulk d + 1
 end
def uptoSmall : (H : Type) → List (DataW H) → Bool := fun _ ds => decide (uptoBulkAll ds ≤ 1048576)
def OpenSpec.upto (s : _root_.Go.ChangeSpec) : _root_.Go.OpenSpec := { _root_.Go.OpenSpec.ofChange s with cond := some uptoSmall }

/-- 'laws.FnExactGoodGraph', WHERE WHAT IT READS IS OF BULK AT MOST 1048576: true; the input reads as it did. -/
def fnExactGoodGraphUptoRow : OpenClaim := { program := "ytghblkjhecoaoaa", sum := "4cd4e98d2d438e95205688c807f21ff4bff6ba2aa9bf50ab3e4a8c979d5b2ee8", func := "loop.example/g00698/laws.FnExactGoodGraph", spec := "fnExactGoodGraph", unfollowed := true, recurses := true, apart := false, narrowed := true }
def FnExactGoodGraphUptoSaid : Prop := fnExactGoodGraphUptoRow.holds Try.pinned (OpenSpec.upto fnExactGoodGraphSpec)

/-- 'laws.FnExactReachedFrom', WHERE WHAT IT READS IS OF BULK AT MOST 1048576: true; the input reads as it did. -/
def fnExactReachedFromUptoRow : OpenClaim := { program := "ytghblkjhecoaoaa", sum := "4cd4e98d2d438e95205688c807f21ff4bff6ba2aa9bf50ab3e4a8c979d5b2ee8", func := "loop.example/g00698/laws.FnExactReachedFrom", spec := "fnExactReachedFrom", unfollowed := true, recurses := true, apart := false, narrowed := true }
def FnExactReachedFromUptoSaid : Prop := fnExactReachedFromUptoRow.holds Try.pinned (OpenSpec.upto fnExactReachedFromSpec)

/-- 'laws.FnExactComponentsOf', WHERE WHAT IT READS IS OF BULK AT MOST 1048576: true; the input reads as it did. -/
def fnExactComponentsOfUptoRow : OpenClaim := { program := "ytghblkjhecoaoaa", sum := "4cd4e98d2d438e95205688c807f21ff4bff6ba2aa9bf50ab3e4a8c979d5b2ee8", func := "loop.example/g00698/laws.FnExactComponentsOf", spec := "fnExactComponentsOf", unfollowed := true, recurses := true, apart := false, narrowed := true }
def FnExactComponentsOfUptoSaid : Prop := fnExactComponentsOfUptoRow.holds Try.pinned (OpenSpec.upto fnExactComponentsOfSpec)

/-- 'laws.FnExactClosedIn', WHERE WHAT IT READS IS OF BULK AT MOST 1048576: true; the input reads as it did. -/
def fnExactClosedInUptoRow : OpenClaim := { program := "ytghblkjhecoaoaa", sum := "4cd4e98d2d438e95205688c807f21ff4bff6ba2aa9bf50ab3e4a8c979d5b2ee8", func := "loop.example/g00698/laws.FnExactClosedIn", spec := "fnExactClosedIn", unfollowed := true, recurses := true, apart := false, narrowed := true }
def FnExactClosedInUptoSaid : Prop := fnExactClosedInUptoRow.holds Try.pinned (OpenSpec.upto fnExactClosedInSpec)

/-- 'laws.FnExactOrderOf', WHERE WHAT IT READS IS OF BULK AT MOST 1048576: true; the input reads as it did. -/
def fnExactOrderOfUptoRow : OpenClaim := { program := "ytghblkjhecoaoaa", sum := "4cd4e98d2d438e95205688c807f21ff4bff6ba2aa9bf50ab3e4a8c979d5b2ee8", func := "loop.example/g00698/laws.FnExactOrderOf", spec := "fnExactOrderOf", unfollowed := true, recurses := true, apart := false, narrowed := true }
def FnExactOrderOfUptoSaid : Prop := fnExactOrderOfUptoRow.holds Try.pinned (OpenSpec.upto fnExactOrderOfSpec)

/-- 'laws.FnExactIsOrder', WHERE WHAT IT READS IS OF BULK AT MOST 1048576: true; the input reads as it did. -/
def fnExactIsOrderUptoRow : OpenClaim := { program := "ytghblkjhecoaoaa", sum := "4cd4e98d2d438e95205688c807f21ff4bff6ba2aa9bf50ab3e4a8c979d5b2ee8", func := "loop.example/g00698/laws.FnExactIsOrder", spec := "fnExactIsOrder", unfollowed := true, recurses := true, apart := false, narrowed := true }
def FnExactIsOrderUptoSaid : Prop := fnExactIsOrderUptoRow.holds Try.pinned (OpenSpec.upto fnExactIsOrderSpec)

/-- 'laws.FnComponents', WHERE WHAT IT READS IS OF BULK AT MOST 1048576: true; the input reads as it did. -/
def fnComponentsUptoRow : OpenClaim := { program := "ytghblkjhecoaoaa", sum := "4cd4e98d2d438e95205688c807f21ff4bff6ba2aa9bf50ab3e4a8c979d5b2ee8", func := "loop.example/g00698/laws.FnComponents", spec := "fnComponents", unfollowed := true, recurses := true, apart := false, narrowed := true }
def FnComponentsUptoSaid : Prop := fnComponentsUptoRow.holds Try.pinned (OpenSpec.upto fnComponentsSpec)

/-- 'laws.FnOrders', WHERE WHAT IT READS IS OF BULK AT MOST 1048576: true; the input reads as it did. -/
def fnOrdersUptoRow : OpenClaim := { program := "ytghblkjhecoaoaa", sum := "4cd4e98d2d438e95205688c807f21ff4bff6ba2aa9bf50ab3e4a8c979d5b2ee8", func := "loop.example/g00698/laws.FnOrders", spec := "fnOrders", unfollowed := true, recurses := true, apart := false, narrowed := true }
def FnOrdersUptoSaid : Prop := fnOrdersUptoRow.holds Try.pinned (OpenSpec.upto fnOrdersSpec)

/-- 'laws.FnExactSetsOf', WHERE WHAT IT READS IS OF BULK AT MOST 1048576: true; the input reads as it did. -/
def fnExactSetsOfUptoRow : OpenClaim := { program := "ytghblkjhecoaoaa", sum := "4cd4e98d2d438e95205688c807f21ff4bff6ba2aa9bf50ab3e4a8c979d5b2ee8", func := "loop.example/g00698/laws.FnExactSetsOf", spec := "fnExactSetsOf", recurses := true, apart := false, narrowed := true }
def FnExactSetsOfUptoSaid : Prop := fnExactSetsOfUptoRow.holds Try.pinned (OpenSpec.upto fnExactSetsOfSpec)

/-- 'laws.FnExactWithoutOnes', WHERE WHAT IT READS IS OF BULK AT MOST 1048576: true; the input reads as it did. -/
def fnExactWithoutOnesUptoRow : OpenClaim := { program := "ytghblkjhecoaoaa", sum := "4cd4e98d2d438e95205688c807f21ff4bff6ba2aa9bf50ab3e4a8c979d5b2ee8", func := "loop.example/g00698/laws.FnExactWithoutOnes", spec := "fnExactWithoutOnes", unfollowed := true, recurses := true, apart := false, narrowed := true }
def FnExactWithoutOnesUptoSaid : Prop := fnExactWithoutOnesUptoRow.holds Try.pinned (OpenSpec.upto fnExactWithoutOnesSpec)

/-- 'laws.FnExactLeastMeeting', WHERE WHAT IT READS IS OF BULK AT MOST 1048576: true; the input reads as it did. -/
def fnExactLeastMeetingUptoRow : OpenClaim := { program := "ytghblkjhecoaoaa", sum := "4cd4e98d2d438e95205688c807f21ff4bff6ba2aa9bf50ab3e4a8c979d5b2ee8", func := "loop.example/g00698/laws.FnExactLeastMeeting", spec := "fnExactLeastMeeting", unfollowed := true, recurses := true, apart := false, narrowed := true }
def FnExactLeastMeetingUptoSaid : Prop := fnExactLeastMeetingUptoRow.holds Try.pinned (OpenSpec.upto fnExactLeastMeetingSpec)

/-- 'laws.FnExactAllMeet', WHERE WHAT IT READS IS OF BULK AT MOST 1048576: true; the input reads as it did. -/
def fnExactAllMeetUptoRow : OpenClaim := { program := "ytghblkjhecoaoaa", sum := "4cd4e98d2d438e95205688c807f21ff4bff6ba2aa9bf50ab3e4a8c979d5b2ee8", func := "loop.example/g00698/laws.FnExactAllMeet", spec := "fnExactAllMeet", unfollowed := true, recurses := true, apart := false, narrowed := true }
def FnExactAllMeetUptoSaid : Prop := fnExactAllMeetUptoRow.holds Try.pinned (OpenSpec.upto fnExactAllMeetSpec)

end Rows
end Go.Proofs.Ytghblkjhecoaoaa
