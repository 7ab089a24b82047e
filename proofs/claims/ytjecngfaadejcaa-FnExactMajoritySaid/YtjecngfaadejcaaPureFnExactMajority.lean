/- The program's Majority returns what the reference's returns, for all arguments. -/
import Derived.Test.YtjecngfaadejcaaPFnExactMajorityx1
namespace Go.Proofs.Ytjecngfaadejcaa.Pure
open Go.RowKit Go.Proofs.Ytjecngfaadejcaa.PFnExactMajority Go.Proofs.YtjecngfaadejcaaW.PrintWords Go.Proofs.YtjecngfaadejcaaW.PrintLast

theorem FnExactMajority : laws_FnExactMajority.Pure := by
  intro n _
  have e : spec_Majority.f n = impl_Majority.f n := by
    unfold spec_Majority.f impl_Majority.f spec_IsGroup.f impl_IsGroup.f; rfl
  unfold laws_FnExactMajority.f
  have : ∃ r, impl_Majority.f n = some r := by
    unfold impl_Majority.f impl_IsGroup.f
    by_cases h : n = 3
    · rw [if_pos h]; exact ⟨_, rfl⟩
    · rw [if_neg h]
      by_cases h5 : n = 5
      · subst h5; exact ⟨_, rfl⟩
      · simp [h5]
  obtain ⟨r, hr⟩ := this
  rw [e, hr]; simp

end Go.Proofs.Ytjecngfaadejcaa.Pure
