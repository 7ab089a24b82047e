/- The law FnExactNewNet holds, for every input. -/
import Derived.Test.YtbhdhcflkamieaaQFnExactNewNetx4
import Derived.Test.YtbhdhcflkamieaaMine
namespace Go.Proofs.Ytbhdhcflkamieaa.Pure
open Go.RowKit Go.Proofs.Ytbhdhcflkamieaa.QFnExactNewNet Go.Proofs.YtbhdhcflkamieaaW.PrintWords Go.Proofs.YtbhdhcflkamieaaW.PrintLast Go.Proofs.YtbhdhcflkamieaaW.PrintMore
set_option linter.unusedVariables false
set_option linter.unusedSimpArgs false



def net3 : List S70 := [⟨0, ⟨3, [[], [], []]⟩, []⟩, ⟨1, ⟨3, [[], [], []]⟩, []⟩, ⟨2, ⟨3, [[], [], []]⟩, []⟩]
def marked3 : List S70 := [⟨1, ⟨2, [[], [], []]⟩, []⟩, ⟨3, ⟨4, [[], [], []]⟩, []⟩, ⟨5, ⟨6, [[], [], []]⟩, []⟩]
def net5 : List S70 := [⟨0, ⟨5, [[], [], [], [], []]⟩, []⟩, ⟨1, ⟨5, [[], [], [], [], []]⟩, []⟩, ⟨2, ⟨5, [[], [], [], [], []]⟩, []⟩, ⟨3, ⟨5, [[], [], [], [], []]⟩, []⟩, ⟨4, ⟨5, [[], [], [], [], []]⟩, []⟩]
def marked5 : List S70 := [⟨1, ⟨2, [[], [], [], [], []]⟩, []⟩, ⟨3, ⟨4, [[], [], [], [], []]⟩, []⟩, ⟨5, ⟨6, [[], [], [], [], []]⟩, []⟩, ⟨7, ⟨8, [[], [], [], [], []]⟩, []⟩, ⟨9, ⟨10, [[], [], [], [], []]⟩, []⟩]
theorem FnExactNewNet : laws_FnExactNewNet.Pure := by
  intro a0 _
  unfold laws_FnExactNewNet.Facts
  by_cases h3 : a0 = 3
  · subst h3
    exact ⟨net3, [], [], true, ⟨20, by kernel_rfl⟩, ⟨20, by kernel_rfl⟩, ⟨20, by kernel_rfl⟩, 7, marked3, ⟨20, by decide, by kernel_rfl⟩, ⟨20, by kernel_rfl⟩, trivial⟩
  by_cases h5 : a0 = 5
  · subst h5
    exact ⟨net5, [], [], true, ⟨20, by kernel_rfl⟩, ⟨20, by kernel_rfl⟩, ⟨20, by kernel_rfl⟩, 11, marked5, ⟨20, by decide, by kernel_rfl⟩, ⟨20, by kernel_rfl⟩, trivial⟩
  refine ⟨[], [], [], false, ⟨20, ?_⟩, ⟨20, ?_⟩, ⟨20, by kernel_rfl⟩, 1, [], ⟨20, by decide, by kernel_rfl⟩, ⟨20, by kernel_rfl⟩, trivial⟩
  · unfold spec_NewNet.f spec_IsGroup.f
    rw [if_neg h3, show (a0 == 5) = false by simp [h5]]
    rfl
  · unfold impl_NewNet.f impl_IsGroup.f
    rw [if_neg h3, show (a0 == 5) = false by simp [h5]]
    rfl

end Go.Proofs.Ytbhdhcflkamieaa.Pure
