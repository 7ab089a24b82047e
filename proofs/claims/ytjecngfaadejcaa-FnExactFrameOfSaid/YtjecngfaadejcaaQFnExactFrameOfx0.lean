-- Written by a program of this session (wip/mk.py) over the kit's print: Lean checks it.
import Derived.Test.YtjecngfaadejcaaProg
import Derived.Below
import Derived.Deep.Draws
import Derived.Deep.AppendLies
import Derived.Maps.AppendAt
import Derived.OwnWalk
import Derived.Laws.BytesArg
import Derived.Laws.MakeOwn
import Derived.Laws.OwnMore
import Derived.Deep.OwnRows
import Derived.Tactics
import Derived.Lib.ConvBytes
import Derived.Laws.Slices
import Derived.WalkKit
import Derived.KernelRfl
import Derived.RowKit3
import Derived.Deep.LoopGhost
import Derived.Deep.QuietTactic
import Derived.BigQuiet
import Derived.WideLaws
import Derived.Deep.DeepCutAuto
import Derived.Deep.CutBlock
import Derived.Deep.RegionHeld3
import Derived.Laws.Rows
import Derived.Lib.AppendStr
import Derived.ArgAppend
import Derived.Laws.IdiomCopy
import Derived.OrdersHeld
import Derived.Laws.BitsLemmas
import Derived.RowKit
import Derived.Test.YtjecngfaadejcaaMine
import Derived.Test.YtjecngfaadejcaaWWords
import Derived.Test.YtjecngfaadejcaaWLast
import Derived.Test.YtjecngfaadejcaaWTab
import Derived.Test.YtjecngfaadejcaaWFour
import Derived.Test.YtjecngfaadejcaaWQPut
import Derived.Test.YtjecngfaadejcaaWApart
import Derived.Test.YtjecngfaadejcaaWArr
import Derived.Test.YtjecngfaadejcaaWZeros
import Derived.Test.YtjecngfaadejcaaWFoot
import Derived.Test.YtjecngfaadejcaaWKept
import Derived.Test.YtjecngfaadejcaaWShare
import Derived.Test.YtjecngfaadejcaaWN
import Derived.Test.YtjecngfaadejcaaWFootNe
import Derived.Test.YtjecngfaadejcaaWAt
import Derived.Test.YtjecngfaadejcaaWEqStruct
import Derived.Test.YtjecngfaadejcaaWRepsOne
import Derived.Test.YtjecngfaadejcaaWInv
import Derived.Test.YtjecngfaadejcaaWInvWords
import Derived.Test.YtjecngfaadejcaaWGuard
import Derived.Test.YtjecngfaadejcaaWNEv
import Derived.Test.YtjecngfaadejcaaWMore
namespace Go.Proofs.Ytjecngfaadejcaa.QFnExactFrameOf
open Go.RowKit Go.Proofs.YtjecngfaadejcaaW.PrintWords Go.Proofs.YtjecngfaadejcaaW.PrintLast Go.Proofs.YtjecngfaadejcaaW.PrintMore
attribute [local go_sem] max2_int min2_int max_two min_two max_three min_three max_four min_four   -- for this text's walks alone
set_option linter.unusedVariables false
set_option linter.unusedSimpArgs false



def errW : Option Int → Value
  | none => .nilIface
  | some c => .iface 0 (.int .i64 c)
theorem errW_none : errW none = .nilIface := rfl
theorem errW_some (c : Int) : errW (some c) = .iface 0 (.int .i64 c) := rfl

theorem info5 : (Try.prog.info? 5).map (fun i => (i.zero, i.size, i.bytes)) = some (some (.int .u8 0), 1, 1) := by kernel_rfl
-- the values' own types

end Go.Proofs.Ytjecngfaadejcaa.QFnExactFrameOf
