-- Written by a program of this session (wip/mk.py) over the kit's print: Lean checks it.
import Derived.Test.YtnkdplemnikkhaaQFnExactJoinAttrx0
import Derived.Test.YtnkdplemnikkhaaQFnExactJoinAttrx4
namespace Go.Proofs.Ytnkdplemnikkhaa.QFnExactJoinAttr
open Go.RowKit Go.Proofs.YtnkdplemnikkhaaW.PrintWords Go.Proofs.YtnkdplemnikkhaaW.PrintLast Go.Proofs.YtnkdplemnikkhaaW.PrintMore
attribute [local go_sem] max2_int min2_int max_two min_two max_three min_three max_four min_four   -- for this text's walks alone
set_option linter.unusedVariables false
set_option linter.unusedSimpArgs false

def q24 (x : S24) : Prop := (Lit.int .i64 x.f0).wf = true ∧ (x.f1.length ≤ 9223372036854775807 ∧ ∀ y ∈ x.f1, (Lit.int .i64 y).wf = true)
/-- THE ONE PURE STATEMENT of laws_FnExactJoinAttr. -/
def laws_FnExactJoinAttr.Pure : Prop := ∀ (a0 : Int) (x1 : S24) (x2 : S24), (Lit.int .i64 a0).wf = true → q24 x1 → q24 x2 → laws_FnExactJoinAttr.Facts a0 x1.f0 x1.f1 x2.f0 x2.f1

end Go.Proofs.Ytnkdplemnikkhaa.QFnExactJoinAttr
