/-
  No cell of these rows narrows 'for every input' (looked for: loops, veiled, ifaces, maps, wideKeys, modest, calm, conditions, laid).
  DERIVED. THE GIVEN ROWS OF THIS SEAT. 12 by the template 'for every input the law returns true; each argument reads behind the call as it read before'; 0 by the template 'total and deterministic' (their statements: YtjecngfaadejcaaTotals.lean).
  GIVEN WITH THE SEED: the statements are not yours to turn. If you find one false, say at which input.
  Laid BY PROGRAM, IN A SANDBOX (cutbox-rows.mjs): the forced cells as the released guide's own fill.sh prints them over the translation de4de65c088d5ab6… (all of the seat's roots in one cut). By AI agents, Wed Nov 11 2026. No macro, syntax, notation, axiom, sorry.
-/
import Derived.Test.YtjecngfaadejcaaChecked
import GoSem.Claim
import GoSem.ClaimJoined
import GoSem.ClaimMapViews
import Derived.JoinedTies
import Derived.KernelRfl
namespace Go.Proofs.Ytjecngfaadejcaa
/- THE CELL 'sum', in the pinned program and in every row, IS THE sha256 OF THE DUMP (.gsa) THAT YtjecngfaadejcaaProg.lean LOADS. Nothing in Lean hashes anything: it is a label: what it is worth is what the hold of that sum in a sandbox is worth. -/
noncomputable def Try.pinned : Pinned := { name := "ytjecngfaadejcaa", sum := "de4de65c088d5ab643b4ed87567bb9a9d6c8c2b4f753a10a8bf880458011d3e3", checked := Try.checked }
namespace Rows
def none {H : Type} : Left H := { results := [], args := [] }

/-- 'laws.FnExactConstants': WHATEVER THE INPUT: true; the input reads as it did. -/
def fnExactConstantsSpec : ChangeSpec := { name := "fnExactConstants", fn := fun _ => fun
  | [] => { results := [.lit (.bool true)], args := [] }
  | _ => none }
def fnExactConstantsRow : OpenClaim := { program := "ytjecngfaadejcaa", sum := "de4de65c088d5ab643b4ed87567bb9a9d6c8c2b4f753a10a8bf880458011d3e3", func := "loop.example/g00698/laws.FnExactConstants", spec := "fnExactConstants", apart := false }
def FnExactConstantsSaid : Prop := fnExactConstantsRow.holds Try.pinned (OpenSpec.ofChange fnExactConstantsSpec)

/-- ITS FALSE NEIGHBOUR: 'it returns false'. Refute it at one input. -/
def fnExactConstantsWrong : ChangeSpec := { name := "fnExactConstants", fn := fun _ => fun
  | [] => { results := [.lit (.bool false)], args := [] }
  | _ => none }
def FnExactConstantsWrongFalsely : Prop := fnExactConstantsRow.holds Try.pinned (OpenSpec.ofChange fnExactConstantsWrong)

/-- 'laws.FnExactIsGroup': WHATEVER THE INPUT: true; the input reads as it did. -/
def fnExactIsGroupSpec : ChangeSpec := { name := "fnExactIsGroup", fn := fun _ => fun
  | [d] => { results := [.lit (.bool true)], args := [d] }
  | _ => none }
def fnExactIsGroupRow : OpenClaim := { program := "ytjecngfaadejcaa", sum := "de4de65c088d5ab643b4ed87567bb9a9d6c8c2b4f753a10a8bf880458011d3e3", func := "loop.example/g00698/laws.FnExactIsGroup", spec := "fnExactIsGroup", apart := false }
def FnExactIsGroupSaid : Prop := fnExactIsGroupRow.holds Try.pinned (OpenSpec.ofChange fnExactIsGroupSpec)

/-- ITS FALSE NEIGHBOUR: 'it returns false'. Refute it at one input. -/
def fnExactIsGroupWrong : ChangeSpec := { name := "fnExactIsGroup", fn := fun _ => fun
  | [d] => { results := [.lit (.bool false)], args := [d] }
  | _ => none }
def FnExactIsGroupWrongFalsely : Prop := fnExactIsGroupRow.holds Try.pinned (OpenSpec.ofChange fnExactIsGroupWrong)

/-- 'laws.FnExactCutLog': WHATEVER THE INPUT: true; the input reads as it did. -/
def fnExactCutLogSpec : ChangeSpec := { name := "fnExactCutLog", fn := fun _ => fun
  | [d1, d2] => { results := [.lit (.bool true)], args := [d1, d2] }
  | _ => none }
def fnExactCutLogRow : OpenClaim := { program := "ytjecngfaadejcaa", sum := "de4de65c088d5ab643b4ed87567bb9a9d6c8c2b4f753a10a8bf880458011d3e3", func := "loop.example/g00698/laws.FnExactCutLog", spec := "fnExactCutLog", apart := false }
def FnExactCutLogSaid : Prop := fnExactCutLogRow.holds Try.pinned (OpenSpec.ofChange fnExactCutLogSpec)

/-- ITS FALSE NEIGHBOUR: 'it returns false'. Refute it at one input. -/
def fnExactCutLogWrong : ChangeSpec := { name := "fnExactCutLog", fn := fun _ => fun
  | [d1, d2] => { results := [.lit (.bool false)], args := [d1, d2] }
  | _ => none }
def FnExactCutLogWrongFalsely : Prop := fnExactCutLogRow.holds Try.pinned (OpenSpec.ofChange fnExactCutLogWrong)

/-- 'laws.FnExactMajority': WHATEVER THE INPUT: true; the input reads as it did. -/
def fnExactMajoritySpec : ChangeSpec := { name := "fnExactMajority", fn := fun _ => fun
  | [d] => { results := [.lit (.bool true)], args := [d] }
  | _ => none }
def fnExactMajorityRow : OpenClaim := { program := "ytjecngfaadejcaa", sum := "de4de65c088d5ab643b4ed87567bb9a9d6c8c2b4f753a10a8bf880458011d3e3", func := "loop.example/g00698/laws.FnExactMajority", spec := "fnExactMajority", apart := false }
def FnExactMajoritySaid : Prop := fnExactMajorityRow.holds Try.pinned (OpenSpec.ofChange fnExactMajoritySpec)

/-- ITS FALSE NEIGHBOUR: 'it returns false'. Refute it at one input. -/
def fnExactMajorityWrong : ChangeSpec := { name := "fnExactMajority", fn := fun _ => fun
  | [d] => { results := [.lit (.bool false)], args := [d] }
  | _ => none }
def FnExactMajorityWrongFalsely : Prop := fnExactMajorityRow.holds Try.pinned (OpenSpec.ofChange fnExactMajorityWrong)

/-- 'laws.FnExactFrameOf': WHATEVER THE INPUT: true; the input reads as it did. -/
def fnExactFrameOfSpec : ChangeSpec := { name := "fnExactFrameOf", fn := fun _ => fun
  | [d] => { results := [.lit (.bool true)], args := [d] }
  | _ => none }
def fnExactFrameOfRow : OpenClaim := { program := "ytjecngfaadejcaa", sum := "de4de65c088d5ab643b4ed87567bb9a9d6c8c2b4f753a10a8bf880458011d3e3", func := "loop.example/g00698/laws.FnExactFrameOf", spec := "fnExactFrameOf", apart := false }
def FnExactFrameOfSaid : Prop := fnExactFrameOfRow.holds Try.pinned (OpenSpec.ofChange fnExactFrameOfSpec)

/-- ITS FALSE NEIGHBOUR: 'it returns false'. Refute it at one input. -/
def fnExactFrameOfWrong : ChangeSpec := { name := "fnExactFrameOf", fn := fun _ => fun
  | [d] => { results := [.lit (.bool false)], args := [d] }
  | _ => none }
def FnExactFrameOfWrongFalsely : Prop := fnExactFrameOfRow.holds Try.pinned (OpenSpec.ofChange fnExactFrameOfWrong)

/-- 'laws.FnExactGoodCmd': WHATEVER THE INPUT: true; the input reads as it did. -/
def fnExactGoodCmdSpec : ChangeSpec := { name := "fnExactGoodCmd", fn := fun _ => fun
  | [d] => { results := [.lit (.bool true)], args := [d] }
  | _ => none }
def fnExactGoodCmdRow : OpenClaim := { program := "ytjecngfaadejcaa", sum := "de4de65c088d5ab643b4ed87567bb9a9d6c8c2b4f753a10a8bf880458011d3e3", func := "loop.example/g00698/laws.FnExactGoodCmd", spec := "fnExactGoodCmd", apart := false }
def FnExactGoodCmdSaid : Prop := fnExactGoodCmdRow.holds Try.pinned (OpenSpec.ofChange fnExactGoodCmdSpec)

/-- ITS FALSE NEIGHBOUR: 'it returns false'. Refute it at one input. -/
def fnExactGoodCmdWrong : ChangeSpec := { name := "fnExactGoodCmd", fn := fun _ => fun
  | [d] => { results := [.lit (.bool false)], args := [d] }
  | _ => none }
def FnExactGoodCmdWrongFalsely : Prop := fnExactGoodCmdRow.holds Try.pinned (OpenSpec.ofChange fnExactGoodCmdWrong)

/-- 'laws.FnExactGoodSums': WHATEVER THE INPUT: true; the input reads as it did. -/
def fnExactGoodSumsSpec : ChangeSpec := { name := "fnExactGoodSums", fn := fun _ => fun
  | [d] => { results := [.lit (.bool true)], args := [d] }
  | _ => none }
def fnExactGoodSumsRow : OpenClaim := { program := "ytjecngfaadejcaa", sum := "de4de65c088d5ab643b4ed87567bb9a9d6c8c2b4f753a10a8bf880458011d3e3", func := "loop.example/g00698/laws.FnExactGoodSums", spec := "fnExactGoodSums", unfollowed := true, recurses := true, apart := false }
def FnExactGoodSumsSaid : Prop := fnExactGoodSumsRow.holds Try.pinned (OpenSpec.ofChange fnExactGoodSumsSpec)

/-- ITS FALSE NEIGHBOUR: 'it returns false'. Refute it at one input. -/
def fnExactGoodSumsWrong : ChangeSpec := { name := "fnExactGoodSums", fn := fun _ => fun
  | [d] => { results := [.lit (.bool false)], args := [d] }
  | _ => none }
def FnExactGoodSumsWrongFalsely : Prop := fnExactGoodSumsRow.holds Try.pinned (OpenSpec.ofChange fnExactGoodSumsWrong)

/-- 'laws.FnExactTotalOf': WHATEVER THE INPUT: true; the input reads as it did. -/
def fnExactTotalOfSpec : ChangeSpec := { name := "fnExactTotalOf", fn := fun _ => fun
  | [d] => { results := [.lit (.bool true)], args := [d] }
  | _ => none }
def fnExactTotalOfRow : OpenClaim := { program := "ytjecngfaadejcaa", sum := "de4de65c088d5ab643b4ed87567bb9a9d6c8c2b4f753a10a8bf880458011d3e3", func := "loop.example/g00698/laws.FnExactTotalOf", spec := "fnExactTotalOf", unfollowed := true, recurses := true, apart := false }
def FnExactTotalOfSaid : Prop := fnExactTotalOfRow.holds Try.pinned (OpenSpec.ofChange fnExactTotalOfSpec)

/-- ITS FALSE NEIGHBOUR: 'it returns false'. Refute it at one input. -/
def fnExactTotalOfWrong : ChangeSpec := { name := "fnExactTotalOf", fn := fun _ => fun
  | [d] => { results := [.lit (.bool false)], args := [d] }
  | _ => none }
def FnExactTotalOfWrongFalsely : Prop := fnExactTotalOfRow.holds Try.pinned (OpenSpec.ofChange fnExactTotalOfWrong)

/-- 'laws.FnExactNoneAttr': WHATEVER THE INPUT: true; the input reads as it did. -/
def fnExactNoneAttrSpec : ChangeSpec := { name := "fnExactNoneAttr", fn := fun _ => fun
  | [d] => { results := [.lit (.bool true)], args := [d] }
  | _ => none }
def fnExactNoneAttrRow : OpenClaim := { program := "ytjecngfaadejcaa", sum := "de4de65c088d5ab643b4ed87567bb9a9d6c8c2b4f753a10a8bf880458011d3e3", func := "loop.example/g00698/laws.FnExactNoneAttr", spec := "fnExactNoneAttr", apart := false }
def FnExactNoneAttrSaid : Prop := fnExactNoneAttrRow.holds Try.pinned (OpenSpec.ofChange fnExactNoneAttrSpec)

/-- ITS FALSE NEIGHBOUR: 'it returns false'. Refute it at one input. -/
def fnExactNoneAttrWrong : ChangeSpec := { name := "fnExactNoneAttr", fn := fun _ => fun
  | [d] => { results := [.lit (.bool false)], args := [d] }
  | _ => none }
def FnExactNoneAttrWrongFalsely : Prop := fnExactNoneAttrRow.holds Try.pinned (OpenSpec.ofChange fnExactNoneAttrWrong)

/-- 'laws.FnExactSameAttr': WHATEVER THE INPUT: true; the input reads as it did. -/
def fnExactSameAttrSpec : ChangeSpec := { name := "fnExactSameAttr", fn := fun _ => fun
  | [d1, d2] => { results := [.lit (.bool true)], args := [d1, d2] }
  | _ => none }
def fnExactSameAttrRow : OpenClaim := { program := "ytjecngfaadejcaa", sum := "de4de65c088d5ab643b4ed87567bb9a9d6c8c2b4f753a10a8bf880458011d3e3", func := "loop.example/g00698/laws.FnExactSameAttr", spec := "fnExactSameAttr", apart := false }
def FnExactSameAttrSaid : Prop := fnExactSameAttrRow.holds Try.pinned (OpenSpec.ofChange fnExactSameAttrSpec)

/-- ITS FALSE NEIGHBOUR: 'it returns false'. Refute it at one input. -/
def fnExactSameAttrWrong : ChangeSpec := { name := "fnExactSameAttr", fn := fun _ => fun
  | [d1, d2] => { results := [.lit (.bool false)], args := [d1, d2] }
  | _ => none }
def FnExactSameAttrWrongFalsely : Prop := fnExactSameAttrRow.holds Try.pinned (OpenSpec.ofChange fnExactSameAttrWrong)

/-- 'laws.FnExactIsMajority': WHATEVER THE INPUT: true; the input reads as it did. -/
def fnExactIsMajoritySpec : ChangeSpec := { name := "fnExactIsMajority", fn := fun _ => fun
  | [d1, d2] => { results := [.lit (.bool true)], args := [d1, d2] }
  | _ => none }
def fnExactIsMajorityRow : OpenClaim := { program := "ytjecngfaadejcaa", sum := "de4de65c088d5ab643b4ed87567bb9a9d6c8c2b4f753a10a8bf880458011d3e3", func := "loop.example/g00698/laws.FnExactIsMajority", spec := "fnExactIsMajority", unfollowed := true, recurses := true, apart := false }
def FnExactIsMajoritySaid : Prop := fnExactIsMajorityRow.holds Try.pinned (OpenSpec.ofChange fnExactIsMajoritySpec)

/-- ITS FALSE NEIGHBOUR: 'it returns false'. Refute it at one input. -/
def fnExactIsMajorityWrong : ChangeSpec := { name := "fnExactIsMajority", fn := fun _ => fun
  | [d1, d2] => { results := [.lit (.bool false)], args := [d1, d2] }
  | _ => none }
def FnExactIsMajorityWrongFalsely : Prop := fnExactIsMajorityRow.holds Try.pinned (OpenSpec.ofChange fnExactIsMajorityWrong)

/-- 'laws.FnExactGoodAttr': WHATEVER THE INPUT: true; the input reads as it did. -/
def fnExactGoodAttrSpec : ChangeSpec := { name := "fnExactGoodAttr", fn := fun _ => fun
  | [d1, d2] => { results := [.lit (.bool true)], args := [d1, d2] }
  | _ => none }
def fnExactGoodAttrRow : OpenClaim := { program := "ytjecngfaadejcaa", sum := "de4de65c088d5ab643b4ed87567bb9a9d6c8c2b4f753a10a8bf880458011d3e3", func := "loop.example/g00698/laws.FnExactGoodAttr", spec := "fnExactGoodAttr", unfollowed := true, recurses := true, apart := false }
def FnExactGoodAttrSaid : Prop := fnExactGoodAttrRow.holds Try.pinned (OpenSpec.ofChange fnExactGoodAttrSpec)

/-- ITS FALSE NEIGHBOUR: 'it returns false'. Refute it at one input. -/
def fnExactGoodAttrWrong : ChangeSpec := { name := "fnExactGoodAttr", fn := fun _ => fun
  | [d1, d2] => { results := [.lit (.bool false)], args := [d1, d2] }
  | _ => none }
def FnExactGoodAttrWrongFalsely : Prop := fnExactGoodAttrRow.holds Try.pinned (OpenSpec.ofChange fnExactGoodAttrWrong)

/- THE SECOND FORM. 'bulk': how many values and letters a reading holds, each counted each time it is reached (what is shared counts as often as it is met; a slice's spare places count too). A statement '..UptoSaid' is the law's where the arguments, and the package variables that the reading takes, are together of bulk at most 1048576: NARROWER than '..Said'. Prove '..Said' where nothing that the law and all that it calls make is longer than what came in: it says more and counts as full. Else prove '..UptoSaid'. A law counts once. -/
mutual
def uptoBulk {H : Type} : DataW H → Nat
  | .lit (.string bytes) => bytes.length + 1
  | .lit _ => 1
  | .nil => 1
  | .ptr d => uptoBulk d + 1
  | .slice elems spare => uptoBulkAll elems + uptoBulkAll spare + 1
  | .agg parts => uptoBulkAll parts + 1
  | .iface _ d => uptoBulk d + 1
  | .map entries => uptoBulkEntries entries + 1
  | .held _ => 1
def uptoBulkAll {H : Type} : List (DataW H) → Nat
  | [] => 0
  | d :: r => uptoBulk d + uptoBulkAll r
def uptoBulkEntries {H : Type} : List (Lit × DataW H) → Nat
  | [] => 0
  | x :: r => uptoBulkEntry x + uptoBulkEntries r
def uptoBulkEntry {H : Type} : Lit × DataW H → Nat
  | (.string bytes, d) => bytes.length + uptoBulk d + 1
  | (_, d) => uptoBulk d + 1
 end
def uptoSmall : (H : Type) → List (DataW H) → Bool := fun _ ds => decide (uptoBulkAll ds ≤ 1048576)
def OpenSpec.upto (s : _root_.Go.ChangeSpec) : _root_.Go.OpenSpec := { _root_.Go.OpenSpec.ofChange s with cond := some uptoSmall }

/-- 'laws.FnExactConstants', WHERE WHAT IT READS IS OF BULK AT MOST 1048576: true; the input reads as it did. -/
def fnExactConstantsUptoRow : OpenClaim := { program := "ytjecngfaadejcaa", sum := "de4de65c088d5ab643b4ed87567bb9a9d6c8c2b4f753a10a8bf880458011d3e3", func := "loop.example/g00698/laws.FnExactConstants", spec := "fnExactConstants", apart := false, narrowed := true }
def FnExactConstantsUptoSaid : Prop := fnExactConstantsUptoRow.holds Try.pinned (OpenSpec.upto fnExactConstantsSpec)

/-- 'laws.FnExactIsGroup', WHERE WHAT IT READS IS OF BULK AT MOST 1048576: true; the input reads as it did. -/
def fnExactIsGroupUptoRow : OpenClaim := { program := "ytjecngfaadejcaa", sum := "de4de65c088d5ab643b4ed87567bb9a9d6c8c2b4f753a10a8bf880458011d3e3", func := "loop.example/g00698/laws.FnExactIsGroup", spec := "fnExactIsGroup", apart := false, narrowed := true }
def FnExactIsGroupUptoSaid : Prop := fnExactIsGroupUptoRow.holds Try.pinned (OpenSpec.upto fnExactIsGroupSpec)

/-- 'laws.FnExactCutLog', WHERE WHAT IT READS IS OF BULK AT MOST 1048576: true; the input reads as it did. -/
def fnExactCutLogUptoRow : OpenClaim := { program := "ytjecngfaadejcaa", sum := "de4de65c088d5ab643b4ed87567bb9a9d6c8c2b4f753a10a8bf880458011d3e3", func := "loop.example/g00698/laws.FnExactCutLog", spec := "fnExactCutLog", apart := false, narrowed := true }
def FnExactCutLogUptoSaid : Prop := fnExactCutLogUptoRow.holds Try.pinned (OpenSpec.upto fnExactCutLogSpec)

/-- 'laws.FnExactMajority', WHERE WHAT IT READS IS OF BULK AT MOST 1048576: true; the input reads as it did. -/
def fnExactMajorityUptoRow : OpenClaim := { program := "ytjecngfaadejcaa", sum := "de4de65c088d5ab643b4ed87567bb9a9d6c8c2b4f753a10a8bf880458011d3e3", func := "loop.example/g00698/laws.FnExactMajority", spec := "fnExactMajority", apart := false, narrowed := true }
def FnExactMajorityUptoSaid : Prop := fnExactMajorityUptoRow.holds Try.pinned (OpenSpec.upto fnExactMajoritySpec)

/-- 'laws.FnExactFrameOf', WHERE WHAT IT READS IS OF BULK AT MOST 1048576: true; the input reads as it did. -/
def fnExactFrameOfUptoRow : OpenClaim := { program := "ytjecngfaadejcaa", sum := "de4de65c088d5ab643b4ed87567bb9a9d6c8c2b4f753a10a8bf880458011d3e3", func := "loop.example/g00698/laws.FnExactFrameOf", spec := "fnExactFrameOf", apart := false, narrowed := true }
def FnExactFrameOfUptoSaid : Prop := fnExactFrameOfUptoRow.holds Try.pinned (OpenSpec.upto fnExactFrameOfSpec)

/-- 'laws.FnExactGoodCmd', WHERE WHAT IT READS IS OF BULK AT MOST 1048576: true; the input reads as it did. -/
def fnExactGoodCmdUptoRow : OpenClaim := { program := "ytjecngfaadejcaa", sum := "de4de65c088d5ab643b4ed87567bb9a9d6c8c2b4f753a10a8bf880458011d3e3", func := "loop.example/g00698/laws.FnExactGoodCmd", spec := "fnExactGoodCmd", apart := false, narrowed := true }
def FnExactGoodCmdUptoSaid : Prop := fnExactGoodCmdUptoRow.holds Try.pinned (OpenSpec.upto fnExactGoodCmdSpec)

/-- 'laws.FnExactGoodSums', WHERE WHAT IT READS IS OF BULK AT MOST 1048576: true; the input reads as it did. -/
def fnExactGoodSumsUptoRow : OpenClaim := { program := "ytjecngfaadejcaa", sum := "de4de65c088d5ab643b4ed87567bb9a9d6c8c2b4f753a10a8bf880458011d3e3", func := "loop.example/g00698/laws.FnExactGoodSums", spec := "fnExactGoodSums", unfollowed := true, recurses := true, apart := false, narrowed := true }
def FnExactGoodSumsUptoSaid : Prop := fnExactGoodSumsUptoRow.holds Try.pinned (OpenSpec.upto fnExactGoodSumsSpec)

/-- 'laws.FnExactTotalOf', WHERE WHAT IT READS IS OF BULK AT MOST 1048576: true; the input reads as it did. -/
def fnExactTotalOfUptoRow : OpenClaim := { program := "ytjecngfaadejcaa", sum := "de4de65c088d5ab643b4ed87567bb9a9d6c8c2b4f753a10a8bf880458011d3e3", func := "loop.example/g00698/laws.FnExactTotalOf", spec := "fnExactTotalOf", unfollowed := true, recurses := true, apart := false, narrowed := true }
def FnExactTotalOfUptoSaid : Prop := fnExactTotalOfUptoRow.holds Try.pinned (OpenSpec.upto fnExactTotalOfSpec)

/-- 'laws.FnExactNoneAttr', WHERE WHAT IT READS IS OF BULK AT MOST 1048576: true; the input reads as it did. -/
def fnExactNoneAttrUptoRow : OpenClaim := { program := "ytjecngfaadejcaa", sum := "de4de65c088d5ab643b4ed87567bb9a9d6c8c2b4f753a10a8bf880458011d3e3", func := "loop.example/g00698/laws.FnExactNoneAttr", spec := "fnExactNoneAttr", apart := false, narrowed := true }
def FnExactNoneAttrUptoSaid : Prop := fnExactNoneAttrUptoRow.holds Try.pinned (OpenSpec.upto fnExactNoneAttrSpec)

/-- 'laws.FnExactSameAttr', WHERE WHAT IT READS IS OF BULK AT MOST 1048576: true; the input reads as it did. -/
def fnExactSameAttrUptoRow : OpenClaim := { program := "ytjecngfaadejcaa", sum := "de4de65c088d5ab643b4ed87567bb9a9d6c8c2b4f753a10a8bf880458011d3e3", func := "loop.example/g00698/laws.FnExactSameAttr", spec := "fnExactSameAttr", apart := false, narrowed := true }
def FnExactSameAttrUptoSaid : Prop := fnExactSameAttrUptoRow.holds Try.pinned (OpenSpec.upto fnExactSameAttrSpec)

/-- 'laws.FnExactIsMajority', WHERE WHAT IT READS IS OF BULK AT MOST 1048576: true; the input reads as it did. -/
def fnExactIsMajorityUptoRow : OpenClaim := { program := "ytjecngfaadejcaa", sum := "de4de65c088d5ab643b4ed87567bb9a9d6c8c2b4f753a10a8bf880458011d3e3", func := "loop.example/g00698/laws.FnExactIsMajority", spec := "fnExactIsMajority", unfollowed := true, recurses := true, apart := false, narrowed := true }
def FnExactIsMajorityUptoSaid : Prop := fnExactIsMajorityUptoRow.holds Try.pinned (OpenSpec.upto fnExactIsMajoritySpec)

/-- 'laws.FnExactGoodAttr', WHERE WHAT IT READS IS OF BULK AT MOST 1048576: true; the input reads as it did. -/
def fnExactGoodAttrUptoRow : OpenClaim := { program := "ytjecngfaadejcaa", sum := "de4de65c088d5ab643b4ed87567bb9a9d6c8c2b4f753a10a8bf880458011d3e3", func := "loop.example/g00698/laws.FnExactGoodAttr", spec := "fnExactGoodAttr", unfollowed := true, recurses := true, apart := false, narrowed := true }
def FnExactGoodAttrUptoSaid : Prop := fnExactGoodAttrUptoRow.holds Try.pinned (OpenSpec.upto fnExactGoodAttrSpec)

end Rows
end Go.Proofs.Ytjecngfaadejcaa
