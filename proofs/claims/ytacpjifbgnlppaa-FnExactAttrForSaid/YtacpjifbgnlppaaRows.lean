/-
  No cell of these rows narrows 'for every input' (looked for: loops, veiled, ifaces, maps, wideKeys, modest, calm, conditions, laid).
  DERIVED. THE GIVEN ROWS OF THIS SEAT. 6 by the template 'for every input the law returns true; each argument reads behind the call as it read before'; 0 by the template 'total and deterministic' (their statements: YtacpjifbgnlppaaTotals.lean).
  GIVEN WITH THE SEED: the statements are not yours to turn. If you find one false, say at which input.
  Laid BY PROGRAM, IN A SANDBOX (cutbox-rows.mjs): the forced cells as the released guide's own fill.sh prints them over the translation 788264fe259662cf… (all of the seat's roots in one cut). By AI agents, Wed Nov 11 2026. No macro, syntax, notation, axiom, sorry.
-/
import Derived.Test.YtacpjifbgnlppaaChecked
import GoSem.Claim
import GoSem.ClaimJoined
import GoSem.ClaimMapViews
import Derived.JoinedTies
import Derived.KernelRfl
namespace Go.Proofs.Ytacpjifbgnlppaa
/- THE CELL 'sum', in the pinned program and in every row, IS THE sha256 OF THE DUMP (.gsa) THAT YtacpjifbgnlppaaProg.lean LOADS. Nothing in Lean hashes anything: it is a label: what it is worth is what the hold of that sum in a sandbox is worth. -/
noncomputable def Try.pinned : Pinned := { name := "ytacpjifbgnlppaa", sum := "788264fe259662cf0f4e6e3847e361c95aa437df740b2e2a17854c1180c1ca49", checked := Try.checked }
namespace Rows
def none {H : Type} : Left H := { results := [], args := [] }

/-- 'laws.FnExactGoodTable': WHATEVER THE INPUT: true; the input reads as it did. -/
def fnExactGoodTableSpec : ChangeSpec := { name := "fnExactGoodTable", fn := fun _ => fun
  | [d] => { results := [.lit (.bool true)], args := [d] }
  | _ => none }
def fnExactGoodTableRow : OpenClaim := { program := "ytacpjifbgnlppaa", sum := "788264fe259662cf0f4e6e3847e361c95aa437df740b2e2a17854c1180c1ca49", func := "loop.example/g00698/laws.FnExactGoodTable", spec := "fnExactGoodTable", unfollowed := true, recurses := true, apart := false }
def FnExactGoodTableSaid : Prop := fnExactGoodTableRow.holds Try.pinned (OpenSpec.ofChange fnExactGoodTableSpec)

/-- ITS FALSE NEIGHBOUR: 'it returns false'. Refute it at one input. -/
def fnExactGoodTableWrong : ChangeSpec := { name := "fnExactGoodTable", fn := fun _ => fun
  | [d] => { results := [.lit (.bool false)], args := [d] }
  | _ => none }
def FnExactGoodTableWrongFalsely : Prop := fnExactGoodTableRow.holds Try.pinned (OpenSpec.ofChange fnExactGoodTableWrong)

/-- 'laws.FnExactNewTable': WHATEVER THE INPUT: true; the input reads as it did. -/
def fnExactNewTableSpec : ChangeSpec := { name := "fnExactNewTable", fn := fun _ => fun
  | [d] => { results := [.lit (.bool true)], args := [d] }
  | _ => none }
def fnExactNewTableRow : OpenClaim := { program := "ytacpjifbgnlppaa", sum := "788264fe259662cf0f4e6e3847e361c95aa437df740b2e2a17854c1180c1ca49", func := "loop.example/g00698/laws.FnExactNewTable", spec := "fnExactNewTable", apart := false }
def FnExactNewTableSaid : Prop := fnExactNewTableRow.holds Try.pinned (OpenSpec.ofChange fnExactNewTableSpec)

/-- ITS FALSE NEIGHBOUR: 'it returns false'. Refute it at one input. -/
def fnExactNewTableWrong : ChangeSpec := { name := "fnExactNewTable", fn := fun _ => fun
  | [d] => { results := [.lit (.bool false)], args := [d] }
  | _ => none }
def FnExactNewTableWrongFalsely : Prop := fnExactNewTableRow.holds Try.pinned (OpenSpec.ofChange fnExactNewTableWrong)

/-- 'laws.FnExactCommitted': WHATEVER THE INPUT: true; the input reads as it did. -/
def fnExactCommittedSpec : ChangeSpec := { name := "fnExactCommitted", fn := fun _ => fun
  | [d] => { results := [.lit (.bool true)], args := [d] }
  | _ => none }
def fnExactCommittedRow : OpenClaim := { program := "ytacpjifbgnlppaa", sum := "788264fe259662cf0f4e6e3847e361c95aa437df740b2e2a17854c1180c1ca49", func := "loop.example/g00698/laws.FnExactCommitted", spec := "fnExactCommitted", unfollowed := true, recurses := true, apart := false }
def FnExactCommittedSaid : Prop := fnExactCommittedRow.holds Try.pinned (OpenSpec.ofChange fnExactCommittedSpec)

/-- ITS FALSE NEIGHBOUR: 'it returns false'. Refute it at one input. -/
def fnExactCommittedWrong : ChangeSpec := { name := "fnExactCommitted", fn := fun _ => fun
  | [d] => { results := [.lit (.bool false)], args := [d] }
  | _ => none }
def FnExactCommittedWrongFalsely : Prop := fnExactCommittedRow.holds Try.pinned (OpenSpec.ofChange fnExactCommittedWrong)

/-- 'laws.FnExactAttrFor': WHATEVER THE INPUT: true; the input reads as it did. -/
def fnExactAttrForSpec : ChangeSpec := { name := "fnExactAttrFor", fn := fun _ => fun
  | [d1, d2, d3, d4] => { results := [.lit (.bool true)], args := [d1, d2, d3, d4] }
  | _ => none }
def fnExactAttrForRow : OpenClaim := { program := "ytacpjifbgnlppaa", sum := "788264fe259662cf0f4e6e3847e361c95aa437df740b2e2a17854c1180c1ca49", func := "loop.example/g00698/laws.FnExactAttrFor", spec := "fnExactAttrFor", unfollowed := true, recurses := true, apart := false }
def FnExactAttrForSaid : Prop := fnExactAttrForRow.holds Try.pinned (OpenSpec.ofChange fnExactAttrForSpec)

/-- ITS FALSE NEIGHBOUR: 'it returns false'. Refute it at one input. -/
def fnExactAttrForWrong : ChangeSpec := { name := "fnExactAttrFor", fn := fun _ => fun
  | [d1, d2, d3, d4] => { results := [.lit (.bool false)], args := [d1, d2, d3, d4] }
  | _ => none }
def FnExactAttrForWrongFalsely : Prop := fnExactAttrForRow.holds Try.pinned (OpenSpec.ofChange fnExactAttrForWrong)

/-- 'laws.FnExactGoodReplica': WHATEVER THE INPUT: true; the input reads as it did. -/
def fnExactGoodReplicaSpec : ChangeSpec := { name := "fnExactGoodReplica", fn := fun _ => fun
  | [d] => { results := [.lit (.bool true)], args := [d] }
  | _ => none }
def fnExactGoodReplicaRow : OpenClaim := { program := "ytacpjifbgnlppaa", sum := "788264fe259662cf0f4e6e3847e361c95aa437df740b2e2a17854c1180c1ca49", func := "loop.example/g00698/laws.FnExactGoodReplica", spec := "fnExactGoodReplica", unfollowed := true, recurses := true, apart := false }
def FnExactGoodReplicaSaid : Prop := fnExactGoodReplicaRow.holds Try.pinned (OpenSpec.ofChange fnExactGoodReplicaSpec)

/-- ITS FALSE NEIGHBOUR: 'it returns false'. Refute it at one input. -/
def fnExactGoodReplicaWrong : ChangeSpec := { name := "fnExactGoodReplica", fn := fun _ => fun
  | [d] => { results := [.lit (.bool false)], args := [d] }
  | _ => none }
def FnExactGoodReplicaWrongFalsely : Prop := fnExactGoodReplicaRow.holds Try.pinned (OpenSpec.ofChange fnExactGoodReplicaWrong)

/-- 'laws.FnExactNewReplica': WHATEVER THE INPUT: true; the input reads as it did. -/
def fnExactNewReplicaSpec : ChangeSpec := { name := "fnExactNewReplica", fn := fun _ => fun
  | [d1, d2] => { results := [.lit (.bool true)], args := [d1, d2] }
  | _ => none }
def fnExactNewReplicaRow : OpenClaim := { program := "ytacpjifbgnlppaa", sum := "788264fe259662cf0f4e6e3847e361c95aa437df740b2e2a17854c1180c1ca49", func := "loop.example/g00698/laws.FnExactNewReplica", spec := "fnExactNewReplica", apart := false }
def FnExactNewReplicaSaid : Prop := fnExactNewReplicaRow.holds Try.pinned (OpenSpec.ofChange fnExactNewReplicaSpec)

/-- ITS FALSE NEIGHBOUR: 'it returns false'. Refute it at one input. -/
def fnExactNewReplicaWrong : ChangeSpec := { name := "fnExactNewReplica", fn := fun _ => fun
  | [d1, d2] => { results := [.lit (.bool false)], args := [d1, d2] }
  | _ => none }
def FnExactNewReplicaWrongFalsely : Prop := fnExactNewReplicaRow.holds Try.pinned (OpenSpec.ofChange fnExactNewReplicaWrong)

/- THE SECOND FORM. 'bulk': how many values and letters a reading holds, each counted each time it is reached (what is shared counts as often as it is met; a slice's spare places count too). A statement '..UptoSaid' is the law's where the arguments, and the package variables that the reading takes, are together of bulk at most 1048576: NARROWER than '..Said'. Prove '..Said' where nothing that the law and all that it calls make is longer than what came in: it says more and counts as full. Else prove '..UptoSaid'. A law counts once. -/
mutual
def uptoBulk {H : Type} : DataW H → Nat
  | .lit (.string bytes) => bytes.length + 1
  | .lit _ => 1
  | .nil => 1
  | .ptr d => uptoBulk d + 1
  | .slice elems spare => uptoBulkAll elems + uptoBulkAll spare + 1
  | .agg parts => uptoBulkAll parts + 1
  | .iface _ d => uptoBulk d + 1
  | .map entries => uptoBulkEntries entries + 1
  | .held _ => 1
def uptoBulkAll {H : Type} : List (DataW H) → Nat
  | [] => 0
  | d :: r => uptoBulk d + uptoBulkAll r
def uptoBulkEntries {H : Type} : List (Lit × DataW H) → Nat
  | [] => 0
  | x :: r => uptoBulkEntry x + uptoBulkEntries r
def uptoBulkEntry {H : Type} : Lit × DataW H → Nat
  | (.string bytes, d) => bytes.length + uptoBulk d + 1
  | (_, d) => uptoBulk d + 1
 end
def uptoSmall : (H : Type) → List (DataW H) → Bool := fun _ ds => decide (uptoBulkAll ds ≤ 1048576)
def OpenSpec.upto (s : _root_.Go.ChangeSpec) : _root_.Go.OpenSpec := { _root_.Go.OpenSpec.ofChange s with cond := some uptoSmall }

/-- 'laws.FnExactGoodTable', WHERE WHAT IT READS IS OF BULK AT MOST 1048576: true; the input reads as it did. -/
def fnExactGoodTableUptoRow : OpenClaim := { program := "ytacpjifbgnlppaa", sum := "788264fe259662cf0f4e6e3847e361c95aa437df740b2e2a17854c1180c1ca49", func := "loop.example/g00698/laws.FnExactGoodTable", spec := "fnExactGoodTable", unfollowed := true, recurses := true, apart := false, narrowed := true }
def FnExactGoodTableUptoSaid : Prop := fnExactGoodTableUptoRow.holds Try.pinned (OpenSpec.upto fnExactGoodTableSpec)

/-- 'laws.FnExactNewTable', WHERE WHAT IT READS IS OF BULK AT MOST 1048576: true; the input reads as it did. -/
def fnExactNewTableUptoRow : OpenClaim := { program := "ytacpjifbgnlppaa", sum := "788264fe259662cf0f4e6e3847e361c95aa437df740b2e2a17854c1180c1ca49", func := "loop.example/g00698/laws.FnExactNewTable", spec := "fnExactNewTable", apart := false, narrowed := true }
def FnExactNewTableUptoSaid : Prop := fnExactNewTableUptoRow.holds Try.pinned (OpenSpec.upto fnExactNewTableSpec)

/-- 'laws.FnExactCommitted', WHERE WHAT IT READS IS OF BULK AT MOST 1048576: true; the input reads as it did. -/
def fnExactCommittedUptoRow : OpenClaim := { program := "ytacpjifbgnlppaa", sum := "788264fe259662cf0f4e6e3847e361c95aa437df740b2e2a17854c1180c1ca49", func := "loop.example/g00698/laws.FnExactCommitted", spec := "fnExactCommitted", unfollowed := true, recurses := true, apart := false, narrowed := true }
def FnExactCommittedUptoSaid : Prop := fnExactCommittedUptoRow.holds Try.pinned (OpenSpec.upto fnExactCommittedSpec)

/-- 'laws.FnExactAttrFor', WHERE WHAT IT READS IS OF BULK AT MOST 1048576: true; the input reads as it did. -/
def fnExactAttrForUptoRow : OpenClaim := { program := "ytacpjifbgnlppaa", sum := "788264fe259662cf0f4e6e3847e361c95aa437df740b2e2a17854c1180c1ca49", func := "loop.example/g00698/laws.FnExactAttrFor", spec := "fnExactAttrFor", unfollowed := true, recurses := true, apart := false, narrowed := true }
def FnExactAttrForUptoSaid : Prop := fnExactAttrForUptoRow.holds Try.pinned (OpenSpec.upto fnExactAttrForSpec)

/-- 'laws.FnExactGoodReplica', WHERE WHAT IT READS IS OF BULK AT MOST 1048576: true; the input reads as it did. -/
def fnExactGoodReplicaUptoRow : OpenClaim := { program := "ytacpjifbgnlppaa", sum := "788264fe259662cf0f4e6e3847e361c95aa437df740b2e2a17854c1180c1ca49", func := "loop.example/g00698/laws.FnExactGoodReplica", spec := "fnExactGoodReplica", unfollowed := true, recurses := true, apart := false, narrowed := true }
def FnExactGoodReplicaUptoSaid : Prop := fnExactGoodReplicaUptoRow.holds Try.pinned (OpenSpec.upto fnExactGoodReplicaSpec)

/-- 'laws.FnExactNewReplica', WHERE WHAT IT READS IS OF BULK AT MOST 1048576: true; the input reads as it did. -/
def fnExactNewReplicaUptoRow : OpenClaim := { program := "ytacpjifbgnlppaa", sum := "788264fe259662cf0f4e6e3847e361c95aa437df740b2e2a17854c1180c1ca49", func := "loop.example/g00698/laws.FnExactNewReplica", spec := "fnExactNewReplica", apart := false, narrowed := true }
def FnExactNewReplicaUptoSaid : Prop := fnExactNewReplicaUptoRow.holds Try.pinned (OpenSpec.upto fnExactNewReplicaSpec)

end Rows
end Go.Proofs.Ytacpjifbgnlppaa
