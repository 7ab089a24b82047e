-- Written by a program of this session (wip/mk.py) over the kit's print: Lean checks it.
import Derived.Test.YteecmbfebenjjaaQFnTellsSamex0
import Derived.Test.YteecmbfebenjjaaQFnTellsSamex13
namespace Go.Proofs.Yteecmbfebenjjaa.QFnTellsSame
open Go.RowKit Go.Proofs.YteecmbfebenjjaaW.PrintWords Go.Proofs.YteecmbfebenjjaaW.PrintLast Go.Proofs.YteecmbfebenjjaaW.PrintMore
attribute [local go_sem] max2_int min2_int max_two min_two max_three min_three max_four min_four   -- for this text's walks alone
set_option linter.unusedVariables false
set_option linter.unusedSimpArgs false
def laws_FnTellsSame.Pure : Prop := ∀ (l0 : List Int) (l1 : List Int), (l0.length ≤ 9223372036854775807 ∧ ∀ y ∈ l0, (Lit.int .u8 y).wf = true) → (l1.length ≤ 9223372036854775807 ∧ ∀ y ∈ l1, (Lit.int .u8 y).wf = true) → ∃ k, laws_FnTellsSame.f k l0 l1 = some true
end Go.Proofs.Yteecmbfebenjjaa.QFnTellsSame
