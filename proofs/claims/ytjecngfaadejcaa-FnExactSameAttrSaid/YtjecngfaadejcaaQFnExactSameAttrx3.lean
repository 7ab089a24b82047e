-- Written by a program of this session (wip/mk.py) over the kit's print: Lean checks it.
import Derived.Test.YtjecngfaadejcaaQFnExactSameAttrx0
import Derived.Test.YtjecngfaadejcaaQFnExactSameAttrx2
namespace Go.Proofs.Ytjecngfaadejcaa.QFnExactSameAttr
open Go.RowKit Go.Proofs.YtjecngfaadejcaaW.PrintWords Go.Proofs.YtjecngfaadejcaaW.PrintLast Go.Proofs.YtjecngfaadejcaaW.PrintMore
attribute [local go_sem] max2_int min2_int max_two min_two max_three min_three max_four min_four   -- for this text's walks alone
set_option linter.unusedVariables false
set_option linter.unusedSimpArgs false

def q48 (x : S48) : Prop := (Lit.int .i64 x.f0).wf = true ∧ (x.f1.length ≤ 9223372036854775807 ∧ ∀ y ∈ x.f1, (Lit.int .i64 y).wf = true)
/-- THE ONE PURE STATEMENT of laws_FnExactSameAttr. -/
def laws_FnExactSameAttr.Pure : Prop := ∀ (x0 : S48) (x1 : S48), q48 x0 → q48 x1 → ∃ k, laws_FnExactSameAttr.f k x0.f0 x0.f1 x1.f0 x1.f1 = some true

end Go.Proofs.Ytjecngfaadejcaa.QFnExactSameAttr
