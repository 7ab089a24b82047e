/- The law FnExactNewTable holds, for every input. -/
import Derived.Test.YtacpjifbgnlppaaQFnExactNewTablex2
import Derived.Test.YtacpjifbgnlppaaMine
namespace Go.Proofs.Ytacpjifbgnlppaa.Pure
open Go.RowKit Go.Proofs.Ytacpjifbgnlppaa.QFnExactNewTable Go.Proofs.YtacpjifbgnlppaaW.PrintWords Go.Proofs.YtacpjifbgnlppaaW.PrintLast Go.Proofs.YtacpjifbgnlppaaW.PrintMore
set_option linter.unusedVariables false
set_option linter.unusedSimpArgs false



theorem FnExactNewTable : laws_FnExactNewTable.Pure := by
  intro a0 _
  unfold laws_FnExactNewTable.Facts
  by_cases h3 : a0 = 3
  · subst h3
    exact ⟨3, [[], [], []], true, by kernel_rfl, by kernel_rfl, ⟨20, by kernel_rfl⟩, ⟨20, by kernel_rfl⟩, ⟨20, by kernel_rfl⟩, trivial⟩
  by_cases h5 : a0 = 5
  · subst h5
    exact ⟨5, [[], [], [], [], []], true, by kernel_rfl, by kernel_rfl, ⟨20, by kernel_rfl⟩, ⟨20, by kernel_rfl⟩, ⟨20, by kernel_rfl⟩, trivial⟩
  refine ⟨0, [], false, ?_, ?_, ⟨20, by kernel_rfl⟩, ⟨20, by kernel_rfl⟩, ⟨20, by kernel_rfl⟩, trivial⟩
  · unfold spec_NewTable.f spec_IsGroup.f
    rw [if_neg h3, show (a0 == 5) = false by simp [h5]]
    rfl
  · unfold impl_NewTable.f impl_IsGroup.f
    rw [if_neg h3, show (a0 == 5) = false by simp [h5]]
    rfl

end Go.Proofs.Ytacpjifbgnlppaa.Pure
