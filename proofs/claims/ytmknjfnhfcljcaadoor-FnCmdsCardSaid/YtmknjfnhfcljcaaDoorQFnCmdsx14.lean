-- Written by a program of this session (wip/mk.py) over the kit's print: Lean checks it.
import Derived.Test.YtmknjfnhfcljcaaDoorQFnCmdsx0
import Derived.Test.YtmknjfnhfcljcaaDoorQFnCmdsx13
namespace Go.Proofs.YtmknjfnhfcljcaaDoor.QFnCmds
set_option maxHeartbeats 8000000
set_option maxRecDepth 100000
open List renaming map_toArray → Lm, map_cons → Lc, map_nil → Ln
open Go.RowKit Go.Proofs.YtmknjfnhfcljcaaDoorW.PrintWords Go.Proofs.YtmknjfnhfcljcaaDoorW.PrintLast Go.Proofs.YtmknjfnhfcljcaaDoorW.PrintMore
attribute [local go_sem] max2_int min2_int max_two min_two max_three min_three max_four min_four   -- for this text's walks alone
set_option linter.unusedVariables false
set_option linter.unusedSimpArgs false
def laws_FnCmds.Pure : Prop := ∀ (l0 : List Int) (l1 : List Int), (l0.length ≤ 9223372036854775807 ∧ ∀ y ∈ l0, (Lit.int .u8 y).wf = true) → (l1.length ≤ 9223372036854775807 ∧ ∀ y ∈ l1, (Lit.int .u8 y).wf = true) → laws_FnCmds.Facts l0 l1
end Go.Proofs.YtmknjfnhfcljcaaDoor.QFnCmds
