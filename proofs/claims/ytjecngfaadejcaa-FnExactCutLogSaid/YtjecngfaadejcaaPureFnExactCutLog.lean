/- The program's CutLog returns what the reference's returns, for all arguments. -/
import Derived.Test.YtjecngfaadejcaaPFnExactCutLogx1
namespace Go.Proofs.Ytjecngfaadejcaa.Pure
open Go.RowKit Go.Proofs.Ytjecngfaadejcaa.PFnExactCutLog Go.Proofs.YtjecngfaadejcaaW.PrintWords Go.Proofs.YtjecngfaadejcaaW.PrintLast

theorem FnExactCutLog : laws_FnExactCutLog.Pure := by
  intro s n _ _
  have e : spec_CutLog.f s n = impl_CutLog.f s n := by
    unfold spec_CutLog.f impl_CutLog.f spec_l1In.f impl_within.f; rfl
  unfold laws_FnExactCutLog.f
  by_cases h1 : (s.size : Int) > 1048576
  · rw [if_pos h1]
  · rw [if_neg h1, e]
    have : ∃ r, impl_CutLog.f s n = some r := by
      unfold impl_CutLog.f impl_within.f
      by_cases h2 : (s.size : Int) > 20000
      · rw [if_pos h2]; exact ⟨_, rfl⟩
      · rw [if_neg h2]
        by_cases h3 : 0 ≤ n
        · rw [if_pos h3]
          by_cases h4 : n ≤ (s.size : Int)
          · simp [h3, h4]
          · simp [h4]
        · rw [if_neg h3]; simp
    obtain ⟨r, hr⟩ := this
    rw [hr]; simp

end Go.Proofs.Ytjecngfaadejcaa.Pure
