/- The law FnExactNewReplica holds, for every input. -/
import Derived.Test.YtacpjifbgnlppaaQFnExactNewReplicax2
import Derived.Test.YtacpjifbgnlppaaMine
namespace Go.Proofs.Ytacpjifbgnlppaa.Pure
open Go.RowKit Go.Proofs.Ytacpjifbgnlppaa.QFnExactNewReplica Go.Proofs.YtacpjifbgnlppaaW.PrintWords Go.Proofs.YtacpjifbgnlppaaW.PrintLast Go.Proofs.YtacpjifbgnlppaaW.PrintMore
set_option linter.unusedVariables false
set_option linter.unusedSimpArgs false



theorem new3 (a1 : Int) (h : 0 ≤ a1 ∧ a1 ≤ 2) : laws_FnExactNewReplica.Facts 3 a1 := by
  unfold laws_FnExactNewReplica.Facts
  refine ⟨a1, 3, [[], [], []], [], true, ?_, ?_, ⟨20, ?_⟩, ⟨20, by kernel_rfl⟩, ⟨20, by kernel_rfl⟩, trivial⟩
  · have e : spec_l1In.f a1 0 (wrap64 (3 - 1)) = some true := by
      unfold spec_l1In.f
      rw [if_pos h.1, show wrap64 (3 - 1) = 2 by (unfold wrap64; omega), decide_eq_true h.2]
    unfold spec_NewReplica.f
    rw [e]
    first | rfl | (show _ = _; kernel_rfl)
  · have e : impl_within.f a1 0 (wrap64 (3 - 1)) = some true := by
      unfold impl_within.f
      rw [if_pos h.1, show wrap64 (3 - 1) = 2 by (unfold wrap64; omega), decide_eq_true h.2]
    unfold impl_NewReplica.f
    rw [e]
    first | rfl | (show _ = _; kernel_rfl)
  · unfold laws_eqReplica.f
    rw [if_pos rfl]
    first | rfl | (show _ = _; kernel_rfl)
theorem new5 (a1 : Int) (h : 0 ≤ a1 ∧ a1 ≤ 4) : laws_FnExactNewReplica.Facts 5 a1 := by
  unfold laws_FnExactNewReplica.Facts
  refine ⟨a1, 5, [[], [], [], [], []], [], true, ?_, ?_, ⟨20, ?_⟩, ⟨20, by kernel_rfl⟩, ⟨20, by kernel_rfl⟩, trivial⟩
  · have e : spec_l1In.f a1 0 (wrap64 (5 - 1)) = some true := by
      unfold spec_l1In.f
      rw [if_pos h.1, show wrap64 (5 - 1) = 4 by (unfold wrap64; omega), decide_eq_true h.2]
    unfold spec_NewReplica.f
    rw [e]
    first | rfl | (show _ = _; kernel_rfl)
  · have e : impl_within.f a1 0 (wrap64 (5 - 1)) = some true := by
      unfold impl_within.f
      rw [if_pos h.1, show wrap64 (5 - 1) = 4 by (unfold wrap64; omega), decide_eq_true h.2]
    unfold impl_NewReplica.f
    rw [e]
    first | rfl | (show _ = _; kernel_rfl)
  · unfold laws_eqReplica.f
    rw [if_pos rfl]
    first | rfl | (show _ = _; kernel_rfl)
theorem newBad (a0 a1 : Int) (hs : spec_NewReplica.f a0 a1 = some (0, 0, [], [], false)) (hi : impl_NewReplica.f a0 a1 = some (0, 0, [], [], false)) : laws_FnExactNewReplica.Facts a0 a1 := by
  unfold laws_FnExactNewReplica.Facts
  exact ⟨0, 0, [], [], false, hs, hi, ⟨20, by kernel_rfl⟩, ⟨20, by kernel_rfl⟩, ⟨20, by kernel_rfl⟩, trivial⟩
theorem outS (a1 b : Int) (h : ¬ (0 ≤ a1 ∧ a1 ≤ b)) : spec_l1In.f a1 0 b = some false := by
  unfold spec_l1In.f
  by_cases h0 : a1 ≥ 0
  · rw [if_pos h0, decide_eq_false (by omega)]
  · rw [if_neg h0]
theorem outI (a1 b : Int) (h : ¬ (0 ≤ a1 ∧ a1 ≤ b)) : impl_within.f a1 0 b = some false := by
  unfold impl_within.f
  by_cases h0 : 0 ≤ a1
  · rw [if_pos h0, decide_eq_false (by omega)]
  · rw [if_neg h0]
theorem FnExactNewReplica : laws_FnExactNewReplica.Pure := by
  intro a0 a1 _ _
  by_cases h3 : a0 = 3
  · subst h3
    by_cases h : 0 ≤ a1 ∧ a1 ≤ 2
    · exact new3 a1 h
    · have h' : ¬ (0 ≤ a1 ∧ a1 ≤ wrap64 (3 - 1)) := by rw [show wrap64 (3 - 1) = 2 by (unfold wrap64; omega)]; exact h
      refine newBad _ _ ?_ ?_
      · unfold spec_NewReplica.f
        rw [outS _ _ h']
        first | rfl | (show _ = _; kernel_rfl)
      · unfold impl_NewReplica.f
        rw [outI _ _ h']
        first | rfl | (show _ = _; kernel_rfl)
  by_cases h5 : a0 = 5
  · subst h5
    by_cases h : 0 ≤ a1 ∧ a1 ≤ 4
    · exact new5 a1 h
    · have h' : ¬ (0 ≤ a1 ∧ a1 ≤ wrap64 (5 - 1)) := by rw [show wrap64 (5 - 1) = 4 by (unfold wrap64; omega)]; exact h
      refine newBad _ _ ?_ ?_
      · unfold spec_NewReplica.f
        rw [outS _ _ h']
        first | rfl | (show _ = _; kernel_rfl)
      · unfold impl_NewReplica.f
        rw [outI _ _ h']
        first | rfl | (show _ = _; kernel_rfl)
  refine newBad _ _ ?_ ?_
  · unfold spec_NewReplica.f spec_IsGroup.f
    rw [if_neg h3, show (a0 == 5) = false by simp [h5]]
    rfl
  · unfold impl_NewReplica.f impl_IsGroup.f
    rw [if_neg h3, show (a0 == 5) = false by simp [h5]]
    rfl

end Go.Proofs.Ytacpjifbgnlppaa.Pure
