-- Written by a program of this session (wip/mk.py) over the kit's print: Lean checks it.
import Derived.Test.YtacpjifbgnlppaaQFnExactAttrForx0
import Derived.Test.YtacpjifbgnlppaaQFnExactAttrForx15
namespace Go.Proofs.Ytacpjifbgnlppaa.QFnExactAttrFor
open Go.RowKit Go.Proofs.YtacpjifbgnlppaaW.PrintWords Go.Proofs.YtacpjifbgnlppaaW.PrintLast Go.Proofs.YtacpjifbgnlppaaW.PrintMore
attribute [local go_sem] max2_int min2_int max_two min_two max_three min_three max_four min_four   -- for this text's walks alone
set_option linter.unusedVariables false
set_option linter.unusedSimpArgs false
def q43 (x : S43) : Prop := (Lit.int .i64 x.f0).wf = true ∧ (Lit.int .i64 x.f1).wf = true ∧ (Lit.int .i64 x.f2).wf = true ∧ (Lit.int .i64 x.f3).wf = true ∧ (Lit.int .i64 x.f4).wf = true
def q115 (x : S115) : Prop := (Lit.int .i64 x.f0).wf = true ∧ (x.f1.length ≤ 9223372036854775807 ∧ ∀ y ∈ x.f1, (Lit.int .i64 y).wf = true)
def q125 (x : S125) : Prop := (Lit.int .i64 x.f0).wf = true ∧ (Lit.int .i64 x.f1).wf = true ∧ (Lit.int .i64 x.f2).wf = true ∧ q43 x.f3 ∧ q115 x.f4
def q24 (x : S24) : Prop := (Lit.int .i64 x.f0).wf = true ∧ (x.f1.length ≤ 9223372036854775807 ∧ ∀ y ∈ x.f1, (y.length ≤ 9223372036854775807 ∧ ∀ yy ∈ y, q125 yy))
def laws_FnExactAttrFor.Pure : Prop := ∀ (x0 : S24) (x1 : S43) (a2 : Int) (a3 : Int), q24 x0 → q43 x1 → (Lit.int .i64 a2).wf = true → (Lit.int .i64 a3).wf = true → laws_FnExactAttrFor.Facts x0.f0 x0.f1 x1.f0 x1.f1 x1.f2 x1.f3 x1.f4 a2 a3
end Go.Proofs.Ytacpjifbgnlppaa.QFnExactAttrFor
