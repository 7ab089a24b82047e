/-
  No cell of these rows narrows 'for every input' (looked for: loops, veiled, ifaces, maps, wideKeys, modest, calm, conditions, laid).
  DERIVED. THE GIVEN ROWS OF THIS SEAT. 9 by the template 'for every input the law returns true; each argument reads behind the call as it read before'; 0 by the template 'total and deterministic' (their statements: YtbhhgeecieeefaaTotals.lean).
  GIVEN WITH THE SEED: the statements are not yours to turn. If you find one false, say at which input.
  Laid BY PROGRAM, IN A SANDBOX (cutbox-rows.mjs): the forced cells as the released guide's own fill.sh prints them over the translation 0324b93d2f94a359… (all of the seat's roots in one cut). By AI agents, Wed Nov 11 2026. No macro, syntax, notation, axiom, sorry.
-/
import Derived.Test.YtbhhgeecieeefaaChecked
import GoSem.Claim
import GoSem.ClaimJoined
import GoSem.ClaimMapViews
import Derived.JoinedTies
import Derived.KernelRfl
namespace Go.Proofs.Ytbhhgeecieeefaa
/- THE CELL 'sum', in the pinned program and in every row, IS THE sha256 OF THE DUMP (.gsa) THAT YtbhhgeecieeefaaProg.lean LOADS. Nothing in Lean hashes anything: it is a label: what it is worth is what the hold of that sum in a sandbox is worth. -/
noncomputable def Try.pinned : Pinned := { name := "ytbhhgeecieeefaa", sum := "0324b93d2f94a359baba453b7cb7d20c2923555294ba4992d0628d85f272f6d3", checked := Try.checked }
namespace Rows
def none {H : Type} : Left H := { results := [], args := [] }

/-- 'laws.FnExactTouchesOf': WHATEVER THE INPUT: true; the input reads as it did. -/
def fnExactTouchesOfSpec : ChangeSpec := { name := "fnExactTouchesOf", fn := fun _ => fun
  | [d] => { results := [.lit (.bool true)], args := [d] }
  | _ => none }
def fnExactTouchesOfRow : OpenClaim := { program := "ytbhhgeecieeefaa", sum := "0324b93d2f94a359baba453b7cb7d20c2923555294ba4992d0628d85f272f6d3", func := "loop.example/g00698/laws.FnExactTouchesOf", spec := "fnExactTouchesOf", apart := false }
def FnExactTouchesOfSaid : Prop := fnExactTouchesOfRow.holds Try.pinned (OpenSpec.ofChange fnExactTouchesOfSpec)

/-- ITS FALSE NEIGHBOUR: 'it returns false'. Refute it at one input. -/
def fnExactTouchesOfWrong : ChangeSpec := { name := "fnExactTouchesOf", fn := fun _ => fun
  | [d] => { results := [.lit (.bool false)], args := [d] }
  | _ => none }
def FnExactTouchesOfWrongFalsely : Prop := fnExactTouchesOfRow.holds Try.pinned (OpenSpec.ofChange fnExactTouchesOfWrong)

/-- 'laws.FnExactInterfere': WHATEVER THE INPUT: true; the input reads as it did. -/
def fnExactInterfereSpec : ChangeSpec := { name := "fnExactInterfere", fn := fun _ => fun
  | [d1, d2] => { results := [.lit (.bool true)], args := [d1, d2] }
  | _ => none }
def fnExactInterfereRow : OpenClaim := { program := "ytbhhgeecieeefaa", sum := "0324b93d2f94a359baba453b7cb7d20c2923555294ba4992d0628d85f272f6d3", func := "loop.example/g00698/laws.FnExactInterfere", spec := "fnExactInterfere", unfollowed := true, recurses := true, apart := false }
def FnExactInterfereSaid : Prop := fnExactInterfereRow.holds Try.pinned (OpenSpec.ofChange fnExactInterfereSpec)

/-- ITS FALSE NEIGHBOUR: 'it returns false'. Refute it at one input. -/
def fnExactInterfereWrong : ChangeSpec := { name := "fnExactInterfere", fn := fun _ => fun
  | [d1, d2] => { results := [.lit (.bool false)], args := [d1, d2] }
  | _ => none }
def FnExactInterfereWrongFalsely : Prop := fnExactInterfereRow.holds Try.pinned (OpenSpec.ofChange fnExactInterfereWrong)

/-- 'laws.FnExactApplyCmd': WHATEVER THE INPUT: true; the input reads as it did. -/
def fnExactApplyCmdSpec : ChangeSpec := { name := "fnExactApplyCmd", fn := fun _ => fun
  | [d1, d2] => { results := [.lit (.bool true)], args := [d1, d2] }
  | _ => none }
def fnExactApplyCmdRow : OpenClaim := { program := "ytbhhgeecieeefaa", sum := "0324b93d2f94a359baba453b7cb7d20c2923555294ba4992d0628d85f272f6d3", func := "loop.example/g00698/laws.FnExactApplyCmd", spec := "fnExactApplyCmd", unfollowed := true, recurses := true, apart := false }
def FnExactApplyCmdSaid : Prop := fnExactApplyCmdRow.holds Try.pinned (OpenSpec.ofChange fnExactApplyCmdSpec)

/-- ITS FALSE NEIGHBOUR: 'it returns false'. Refute it at one input. -/
def fnExactApplyCmdWrong : ChangeSpec := { name := "fnExactApplyCmd", fn := fun _ => fun
  | [d1, d2] => { results := [.lit (.bool false)], args := [d1, d2] }
  | _ => none }
def FnExactApplyCmdWrongFalsely : Prop := fnExactApplyCmdRow.holds Try.pinned (OpenSpec.ofChange fnExactApplyCmdWrong)

/-- 'laws.FnExactPlayCmds': WHATEVER THE INPUT: true; the input reads as it did. -/
def fnExactPlayCmdsSpec : ChangeSpec := { name := "fnExactPlayCmds", fn := fun _ => fun
  | [d] => { results := [.lit (.bool true)], args := [d] }
  | _ => none }
def fnExactPlayCmdsRow : OpenClaim := { program := "ytbhhgeecieeefaa", sum := "0324b93d2f94a359baba453b7cb7d20c2923555294ba4992d0628d85f272f6d3", func := "loop.example/g00698/laws.FnExactPlayCmds", spec := "fnExactPlayCmds", unfollowed := true, recurses := true, apart := false }
def FnExactPlayCmdsSaid : Prop := fnExactPlayCmdsRow.holds Try.pinned (OpenSpec.ofChange fnExactPlayCmdsSpec)

/-- ITS FALSE NEIGHBOUR: 'it returns false'. Refute it at one input. -/
def fnExactPlayCmdsWrong : ChangeSpec := { name := "fnExactPlayCmds", fn := fun _ => fun
  | [d] => { results := [.lit (.bool false)], args := [d] }
  | _ => none }
def FnExactPlayCmdsWrongFalsely : Prop := fnExactPlayCmdsRow.holds Try.pinned (OpenSpec.ofChange fnExactPlayCmdsWrong)

/-- 'laws.FnExactTellsSame': WHATEVER THE INPUT: true; the input reads as it did. -/
def fnExactTellsSameSpec : ChangeSpec := { name := "fnExactTellsSame", fn := fun _ => fun
  | [d1, d2] => { results := [.lit (.bool true)], args := [d1, d2] }
  | _ => none }
def fnExactTellsSameRow : OpenClaim := { program := "ytbhhgeecieeefaa", sum := "0324b93d2f94a359baba453b7cb7d20c2923555294ba4992d0628d85f272f6d3", func := "loop.example/g00698/laws.FnExactTellsSame", spec := "fnExactTellsSame", unfollowed := true, recurses := true, apart := false }
def FnExactTellsSameSaid : Prop := fnExactTellsSameRow.holds Try.pinned (OpenSpec.ofChange fnExactTellsSameSpec)

/-- ITS FALSE NEIGHBOUR: 'it returns false'. Refute it at one input. -/
def fnExactTellsSameWrong : ChangeSpec := { name := "fnExactTellsSame", fn := fun _ => fun
  | [d1, d2] => { results := [.lit (.bool false)], args := [d1, d2] }
  | _ => none }
def FnExactTellsSameWrongFalsely : Prop := fnExactTellsSameRow.holds Try.pinned (OpenSpec.ofChange fnExactTellsSameWrong)

/-- 'laws.FnSums': WHATEVER THE INPUT: true; the input reads as it did. -/
def fnSumsSpec : ChangeSpec := { name := "fnSums", fn := fun _ => fun
  | [d1, d2] => { results := [.lit (.bool true)], args := [d1, d2] }
  | _ => none }
def fnSumsRow : OpenClaim := { program := "ytbhhgeecieeefaa", sum := "0324b93d2f94a359baba453b7cb7d20c2923555294ba4992d0628d85f272f6d3", func := "loop.example/g00698/laws.FnSums", spec := "fnSums", unfollowed := true, recurses := true, apart := false }
def FnSumsSaid : Prop := fnSumsRow.holds Try.pinned (OpenSpec.ofChange fnSumsSpec)

/-- ITS FALSE NEIGHBOUR: 'it returns false'. Refute it at one input. -/
def fnSumsWrong : ChangeSpec := { name := "fnSums", fn := fun _ => fun
  | [d1, d2] => { results := [.lit (.bool false)], args := [d1, d2] }
  | _ => none }
def FnSumsWrongFalsely : Prop := fnSumsRow.holds Try.pinned (OpenSpec.ofChange fnSumsWrong)

/-- 'laws.FnTellsSame': WHATEVER THE INPUT: true; the input reads as it did. -/
def fnTellsSameSpec : ChangeSpec := { name := "fnTellsSame", fn := fun _ => fun
  | [d1, d2] => { results := [.lit (.bool true)], args := [d1, d2] }
  | _ => none }
def fnTellsSameRow : OpenClaim := { program := "ytbhhgeecieeefaa", sum := "0324b93d2f94a359baba453b7cb7d20c2923555294ba4992d0628d85f272f6d3", func := "loop.example/g00698/laws.FnTellsSame", spec := "fnTellsSame", unfollowed := true, recurses := true, apart := false }
def FnTellsSameSaid : Prop := fnTellsSameRow.holds Try.pinned (OpenSpec.ofChange fnTellsSameSpec)

/-- ITS FALSE NEIGHBOUR: 'it returns false'. Refute it at one input. -/
def fnTellsSameWrong : ChangeSpec := { name := "fnTellsSame", fn := fun _ => fun
  | [d1, d2] => { results := [.lit (.bool false)], args := [d1, d2] }
  | _ => none }
def FnTellsSameWrongFalsely : Prop := fnTellsSameRow.holds Try.pinned (OpenSpec.ofChange fnTellsSameWrong)

/-- 'laws.FnExactNewSums': WHATEVER THE INPUT: true; the input reads as it did. -/
def fnExactNewSumsSpec : ChangeSpec := { name := "fnExactNewSums", fn := fun _ => fun
  | [] => { results := [.lit (.bool true)], args := [] }
  | _ => none }
def fnExactNewSumsRow : OpenClaim := { program := "ytbhhgeecieeefaa", sum := "0324b93d2f94a359baba453b7cb7d20c2923555294ba4992d0628d85f272f6d3", func := "loop.example/g00698/laws.FnExactNewSums", spec := "fnExactNewSums", apart := false }
def FnExactNewSumsSaid : Prop := fnExactNewSumsRow.holds Try.pinned (OpenSpec.ofChange fnExactNewSumsSpec)

/-- ITS FALSE NEIGHBOUR: 'it returns false'. Refute it at one input. -/
def fnExactNewSumsWrong : ChangeSpec := { name := "fnExactNewSums", fn := fun _ => fun
  | [] => { results := [.lit (.bool false)], args := [] }
  | _ => none }
def FnExactNewSumsWrongFalsely : Prop := fnExactNewSumsRow.holds Try.pinned (OpenSpec.ofChange fnExactNewSumsWrong)

/-- 'laws.FnExactAccountOf': WHATEVER THE INPUT: true; the input reads as it did. -/
def fnExactAccountOfSpec : ChangeSpec := { name := "fnExactAccountOf", fn := fun _ => fun
  | [d1, d2] => { results := [.lit (.bool true)], args := [d1, d2] }
  | _ => none }
def fnExactAccountOfRow : OpenClaim := { program := "ytbhhgeecieeefaa", sum := "0324b93d2f94a359baba453b7cb7d20c2923555294ba4992d0628d85f272f6d3", func := "loop.example/g00698/laws.FnExactAccountOf", spec := "fnExactAccountOf", unfollowed := true, recurses := true, apart := false }
def FnExactAccountOfSaid : Prop := fnExactAccountOfRow.holds Try.pinned (OpenSpec.ofChange fnExactAccountOfSpec)

/-- ITS FALSE NEIGHBOUR: 'it returns false'. Refute it at one input. -/
def fnExactAccountOfWrong : ChangeSpec := { name := "fnExactAccountOf", fn := fun _ => fun
  | [d1, d2] => { results := [.lit (.bool false)], args := [d1, d2] }
  | _ => none }
def FnExactAccountOfWrongFalsely : Prop := fnExactAccountOfRow.holds Try.pinned (OpenSpec.ofChange fnExactAccountOfWrong)

/- THE SECOND FORM. 'bulk': how many values and letters a reading holds, each counted each time it is reached (what is shared counts as often as it is met; a slice's spare places count too). A statement '..UptoSaid' is the law's where the arguments, and the package variables that the reading takes, are together of bulk at most 1048576: NARROWER than '..Said'. Prove '..Said' where nothing that the law and all that it calls make is longer than what came in: it says more and counts as full. Else prove '..UptoSaid'. A law counts once. -/
mutual
def uptoBulk {H : Type} : DataW H → Nat
  | .lit (.string bytes) => bytes.length + 1
  | .lit _ => 1
  | .nil => 1
  | .ptr d => uptoBulk d + 1
  | .slice elems spare => uptoBulkAll elems + uptoBulkAll spare + 1
  | .agg parts => uptoBulkAll parts + 1
  | .iface _ d => uptoBulk d + 1
  | .map entries => uptoBulkEntries entries + 1
  | .held _ => 1
def uptoBulkAll {H : Type} : List (DataW H) → Nat
  | [] => 0
  | d :: r => uptoBulk d + uptoBulkAll r
def uptoBulkEntries {H : Type} : List (Lit × DataW H) → Nat
  | [] => 0
  | x :: r => uptoBulkEntry x + uptoBulkEntries r
def uptoBulkEntry {H : Type} : Lit × DataW H → Nat
  | (.string bytes, d) => bytes.length + uptoBulk d + 1
  | (_, d) => uptoBulk d + 1
 end
def uptoSmall : (H : Type) → List (DataW H) → Bool := fun _ ds => decide (uptoBulkAll ds ≤ 1048576)
def OpenSpec.upto (s : _root_.Go.ChangeSpec) : _root_.Go.OpenSpec := { _root_.Go.OpenSpec.ofChange s with cond := some uptoSmall }

/-- 'laws.FnExactTouchesOf', WHERE WHAT IT READS IS OF BULK AT MOST 1048576: true; the input reads as it did. -/
def fnExactTouchesOfUptoRow : OpenClaim := { program := "ytbhhgeecieeefaa", sum := "0324b93d2f94a359baba453b7cb7d20c2923555294ba4992d0628d85f272f6d3", func := "loop.example/g00698/laws.FnExactTouchesOf", spec := "fnExactTouchesOf", apart := false, narrowed := true }
def FnExactTouchesOfUptoSaid : Prop := fnExactTouchesOfUptoRow.holds Try.pinned (OpenSpec.upto fnExactTouchesOfSpec)

/-- 'laws.FnExactInterfere', WHERE WHAT IT READS IS OF BULK AT MOST 1048576: true; the input reads as it did. -/
def fnExactInterfereUptoRow : OpenClaim := { program := "ytbhhgeecieeefaa", sum := "0324b93d2f94a359baba453b7cb7d20c2923555294ba4992d0628d85f272f6d3", func := "loop.example/g00698/laws.FnExactInterfere", spec := "fnExactInterfere", unfollowed := true, recurses := true, apart := false, narrowed := true }
def FnExactInterfereUptoSaid : Prop := fnExactInterfereUptoRow.holds Try.pinned (OpenSpec.upto fnExactInterfereSpec)

/-- 'laws.FnExactApplyCmd', WHERE WHAT IT READS IS OF BULK AT MOST 1048576: true; the input reads as it did. -/
def fnExactApplyCmdUptoRow : OpenClaim := { program := "ytbhhgeecieeefaa", sum := "0324b93d2f94a359baba453b7cb7d20c2923555294ba4992d0628d85f272f6d3", func := "loop.example/g00698/laws.FnExactApplyCmd", spec := "fnExactApplyCmd", unfollowed := true, recurses := true, apart := false, narrowed := true }
def FnExactApplyCmdUptoSaid : Prop := fnExactApplyCmdUptoRow.holds Try.pinned (OpenSpec.upto fnExactApplyCmdSpec)

/-- 'laws.FnExactPlayCmds', WHERE WHAT IT READS IS OF BULK AT MOST 1048576: true; the input reads as it did. -/
def fnExactPlayCmdsUptoRow : OpenClaim := { program := "ytbhhgeecieeefaa", sum := "0324b93d2f94a359baba453b7cb7d20c2923555294ba4992d0628d85f272f6d3", func := "loop.example/g00698/laws.FnExactPlayCmds", spec := "fnExactPlayCmds", unfollowed := true, recurses := true, apart := false, narrowed := true }
def FnExactPlayCmdsUptoSaid : Prop := fnExactPlayCmdsUptoRow.holds Try.pinned (OpenSpec.upto fnExactPlayCmdsSpec)

/-- 'laws.FnExactTellsSame', WHERE WHAT IT READS IS OF BULK AT MOST 1048576: true; the input reads as it did. -/
def fnExactTellsSameUptoRow : OpenClaim := { program := "ytbhhgeecieeefaa", sum := "0324b93d2f94a359baba453b7cb7d20c2923555294ba4992d0628d85f272f6d3", func := "loop.example/g00698/laws.FnExactTellsSame", spec := "fnExactTellsSame", unfollowed := true, recurses := true, apart := false, narrowed := true }
def FnExactTellsSameUptoSaid : Prop := fnExactTellsSameUptoRow.holds Try.pinned (OpenSpec.upto fnExactTellsSameSpec)

/-- 'laws.FnSums', WHERE WHAT IT READS IS OF BULK AT MOST 1048576: true; the input reads as it did. -/
def fnSumsUptoRow : OpenClaim := { program := "ytbhhgeecieeefaa", sum := "0324b93d2f94a359baba453b7cb7d20c2923555294ba4992d0628d85f272f6d3", func := "loop.example/g00698/laws.FnSums", spec := "fnSums", unfollowed := true, recurses := true, apart := false, narrowed := true }
def FnSumsUptoSaid : Prop := fnSumsUptoRow.holds Try.pinned (OpenSpec.upto fnSumsSpec)

/-- 'laws.FnTellsSame', WHERE WHAT IT READS IS OF BULK AT MOST 1048576: true; the input reads as it did. -/
def fnTellsSameUptoRow : OpenClaim := { program := "ytbhhgeecieeefaa", sum := "0324b93d2f94a359baba453b7cb7d20c2923555294ba4992d0628d85f272f6d3", func := "loop.example/g00698/laws.FnTellsSame", spec := "fnTellsSame", unfollowed := true, recurses := true, apart := false, narrowed := true }
def FnTellsSameUptoSaid : Prop := fnTellsSameUptoRow.holds Try.pinned (OpenSpec.upto fnTellsSameSpec)

/-- 'laws.FnExactNewSums', WHERE WHAT IT READS IS OF BULK AT MOST 1048576: true; the input reads as it did. -/
def fnExactNewSumsUptoRow : OpenClaim := { program := "ytbhhgeecieeefaa", sum := "0324b93d2f94a359baba453b7cb7d20c2923555294ba4992d0628d85f272f6d3", func := "loop.example/g00698/laws.FnExactNewSums", spec := "fnExactNewSums", apart := false, narrowed := true }
def FnExactNewSumsUptoSaid : Prop := fnExactNewSumsUptoRow.holds Try.pinned (OpenSpec.upto fnExactNewSumsSpec)

/-- 'laws.FnExactAccountOf', WHERE WHAT IT READS IS OF BULK AT MOST 1048576: true; the input reads as it did. -/
def fnExactAccountOfUptoRow : OpenClaim := { program := "ytbhhgeecieeefaa", sum := "0324b93d2f94a359baba453b7cb7d20c2923555294ba4992d0628d85f272f6d3", func := "loop.example/g00698/laws.FnExactAccountOf", spec := "fnExactAccountOf", unfollowed := true, recurses := true, apart := false, narrowed := true }
def FnExactAccountOfUptoSaid : Prop := fnExactAccountOfUptoRow.holds Try.pinned (OpenSpec.upto fnExactAccountOfSpec)

end Rows
end Go.Proofs.Ytbhhgeecieeefaa
