/- The program's IsGroup returns what the reference's returns, for all arguments. -/
import Derived.Test.YtjecngfaadejcaaPFnExactIsGroupx1
namespace Go.Proofs.Ytjecngfaadejcaa.Pure
open Go.RowKit Go.Proofs.Ytjecngfaadejcaa.PFnExactIsGroup Go.Proofs.YtjecngfaadejcaaW.PrintWords Go.Proofs.YtjecngfaadejcaaW.PrintLast

theorem FnExactIsGroup : laws_FnExactIsGroup.Pure := by
  intro a0 _
  unfold laws_FnExactIsGroup.f spec_IsGroup.f impl_IsGroup.f
  by_cases h : a0 = 3
  · rw [if_pos h]; rfl
  · rw [if_neg h]; simp

end Go.Proofs.Ytjecngfaadejcaa.Pure
