-- Written by a program of this session (wip/mk.py) over the kit's print: Lean checks it.
import Derived.Test.YtilmcfdhijdhpaaQFnExactGoodReplicax0
import Derived.Test.YtilmcfdhijdhpaaQFnExactGoodReplicax15
namespace Go.Proofs.Ytilmcfdhijdhpaa.QFnExactGoodReplica
open Go.RowKit Go.Proofs.YtilmcfdhijdhpaaW.PrintWords Go.Proofs.YtilmcfdhijdhpaaW.PrintLast Go.Proofs.YtilmcfdhijdhpaaW.PrintMore
attribute [local go_sem] max2_int min2_int max_two min_two max_three min_three max_four min_four   -- for this text's walks alone
set_option linter.unusedVariables false
set_option linter.unusedSimpArgs false
def q104 (x : S104) : Prop := (Lit.int .i64 x.f0).wf = true ∧ (Lit.int .i64 x.f1).wf = true ∧ (Lit.int .i64 x.f2).wf = true ∧ (Lit.int .i64 x.f3).wf = true ∧ (Lit.int .i64 x.f4).wf = true
def q105 (x : S105) : Prop := (Lit.int .i64 x.f0).wf = true ∧ (x.f1.length ≤ 9223372036854775807 ∧ ∀ y ∈ x.f1, (Lit.int .i64 y).wf = true)
def q132 (x : S132) : Prop := (Lit.int .i64 x.f0).wf = true ∧ (Lit.int .i64 x.f1).wf = true ∧ (Lit.int .i64 x.f2).wf = true ∧ q104 x.f3 ∧ q105 x.f4
def q45 (x : S45) : Prop := (Lit.int .i64 x.f0).wf = true ∧ (x.f1.length ≤ 9223372036854775807 ∧ ∀ y ∈ x.f1, (y.length ≤ 9223372036854775807 ∧ ∀ yy ∈ y, q132 yy))
def q108 (x : S108) : Prop := (Lit.int .i64 x.f0).wf = true ∧ (Lit.int .i64 x.f1).wf = true ∧ (Lit.int .i64 x.f2).wf = true ∧ (Lit.int .i64 x.f3).wf = true ∧ q104 x.f4 ∧ q105 x.f5 ∧ q105 x.f6 ∧ True ∧ (x.f8.length ≤ 9223372036854775807 ∧ ∀ y ∈ x.f8, (Lit.int .i64 y).wf = true) ∧ (x.f9.length ≤ 9223372036854775807 ∧ ∀ y ∈ x.f9, q132 y)
def q48 (x : S48) : Prop := (Lit.int .i64 x.f0).wf = true ∧ q45 x.f1 ∧ (x.f2.length ≤ 9223372036854775807 ∧ ∀ y ∈ x.f2, q108 y)
def laws_FnExactGoodReplica.Pure : Prop := ∀ (x0 : S48), q48 x0 → laws_FnExactGoodReplica.Facts x0.f0 x0.f1.f0 x0.f1.f1 x0.f2
end Go.Proofs.Ytilmcfdhijdhpaa.QFnExactGoodReplica
