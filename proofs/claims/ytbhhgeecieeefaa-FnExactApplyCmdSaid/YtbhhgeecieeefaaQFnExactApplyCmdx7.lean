-- Written by a program of this session (wip/mk.py) over the kit's print: Lean checks it.
import Derived.Test.YtbhhgeecieeefaaQFnExactApplyCmdx0
import Derived.Test.YtbhhgeecieeefaaQFnExactApplyCmdx6
namespace Go.Proofs.Ytbhhgeecieeefaa.QFnExactApplyCmd
open Go.RowKit Go.Proofs.YtbhhgeecieeefaaW.PrintWords Go.Proofs.YtbhhgeecieeefaaW.PrintLast Go.Proofs.YtbhhgeecieeefaaW.PrintMore
attribute [local go_sem] max2_int min2_int max_two min_two max_three min_three max_four min_four   -- for this text's walks alone
set_option linter.unusedVariables false
set_option linter.unusedSimpArgs false

def q23 (x : S23) : Prop := (Lit.int .i64 x.f0).wf = true ∧ (Lit.int .i64 x.f1).wf = true ∧ (Lit.int .i64 x.f2).wf = true ∧ (Lit.int .i64 x.f3).wf = true ∧ (Lit.int .i64 x.f4).wf = true
/-- THE ONE PURE STATEMENT of laws_FnExactApplyCmd. -/
def laws_FnExactApplyCmd.Pure : Prop := ∀ (l0 : List Int) (x1 : S23), (l0.length ≤ 9223372036854775807 ∧ ∀ y ∈ l0, (Lit.int .i64 y).wf = true) → q23 x1 → ∃ k, laws_FnExactApplyCmd.f k l0 x1.f0 x1.f1 x1.f2 x1.f3 x1.f4 = some true

end Go.Proofs.Ytbhhgeecieeefaa.QFnExactApplyCmd
