-- Written by a program of this session (wip/mk.py) over the kit's print: Lean checks it.
import Derived.Test.YtphjjidoniideaaProg
import Derived.Below
import Derived.Deep.Draws
import Derived.Deep.AppendLies
import Derived.Maps.AppendAt
import Derived.OwnWalk
import Derived.Laws.BytesArg
import Derived.Laws.MakeOwn
import Derived.Laws.OwnMore
import Derived.Deep.OwnRows
import Derived.Tactics
import Derived.Lib.ConvBytes
import Derived.Laws.Slices
import Derived.WalkKit
import Derived.KernelRfl
import Derived.RowKit3
import Derived.Deep.LoopGhost
import Derived.Deep.QuietTactic
import Derived.BigQuiet
import Derived.WideLaws
import Derived.Deep.DeepCutAuto
import Derived.Deep.CutBlock
import Derived.Deep.RegionHeld3
import Derived.Laws.Rows
import Derived.Lib.AppendStr
import Derived.ArgAppend
import Derived.Laws.IdiomCopy
import Derived.OrdersHeld
import Derived.Laws.BitsLemmas
import Derived.RowKit
import Derived.Test.YtphjjidoniideaaMine
import Derived.Test.YtphjjidoniideaaMine2
import Derived.Test.YtphjjidoniideaaWWords
import Derived.Test.YtphjjidoniideaaWLast
import Derived.Test.YtphjjidoniideaaWTab
import Derived.Test.YtphjjidoniideaaWFour
import Derived.Test.YtphjjidoniideaaWQPut
import Derived.Test.YtphjjidoniideaaWApart
import Derived.Test.YtphjjidoniideaaWArr
import Derived.Test.YtphjjidoniideaaWZeros
import Derived.Test.YtphjjidoniideaaWFoot
import Derived.Test.YtphjjidoniideaaWKept
import Derived.Test.YtphjjidoniideaaWShare
import Derived.Test.YtphjjidoniideaaWN
import Derived.Test.YtphjjidoniideaaWFootNe
import Derived.Test.YtphjjidoniideaaWAt
import Derived.Test.YtphjjidoniideaaWEqStruct
import Derived.Test.YtphjjidoniideaaWRepsOne
import Derived.Test.YtphjjidoniideaaWInv
import Derived.Test.YtphjjidoniideaaWInvWords
import Derived.Test.YtphjjidoniideaaWGuard
import Derived.Test.YtphjjidoniideaaWNEv
import Derived.Test.YtphjjidoniideaaWMore
namespace Go.Proofs.Ytphjjidoniideaa.QFnExactFramesIn
open Go.RowKit Go.Proofs.YtphjjidoniideaaW.PrintWords Go.Proofs.YtphjjidoniideaaW.PrintLast Go.Proofs.YtphjjidoniideaaW.PrintMore
attribute [local go_sem] max2_int min2_int max_two min_two max_three min_three max_four min_four   -- for this text's walks alone
set_option linter.unusedVariables false
set_option linter.unusedSimpArgs false



def errW : Option Int → Value
  | none => .nilIface
  | some c => .iface 0 (.int .i64 c)
theorem errW_none : errW none = .nilIface := rfl
theorem errW_some (c : Int) : errW (some c) = .iface 0 (.int .i64 c) := rfl

theorem info5 : (Try.prog.info? 5).map (fun i => (i.zero, i.size, i.bytes)) = some (some (.int .u8 0), 1, 1) := by kernel_rfl
theorem info9 : (Try.prog.info? 9).map (fun i => (i.zero, i.size, i.bytes)) = some (some (.string ⟨#[]⟩), 1, 16) := by kernel_rfl
-- the values' own types

end Go.Proofs.Ytphjjidoniideaa.QFnExactFramesIn
