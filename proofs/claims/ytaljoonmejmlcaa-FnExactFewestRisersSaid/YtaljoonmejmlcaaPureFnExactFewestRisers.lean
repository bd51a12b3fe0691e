/- The plain law of FnExactFewestRisers: what the reference's function tells, the program's function tells, for every input. No further condition. -/
import Derived.Test.YtaljoonmejmlcaaPFnExactFewestRisersx1
namespace Go.Proofs.Ytaljoonmejmlcaa.Pure
open Go.RowKit Go.Proofs.Ytaljoonmejmlcaa.PFnExactFewestRisers Go.Proofs.YtaljoonmejmlcaaW.PrintWords Go.Proofs.YtaljoonmejmlcaaW.PrintLast
set_option linter.unusedVariables false
set_option linter.unusedSimpArgs false

theorem in_eq (a b c : Int) : spec_l1In.f a b c = some (decide (b ≤ a ∧ a ≤ c)) := by
  unfold spec_l1In.f
  by_cases h : a ≥ b
  · rw [if_pos h]
    simp [show b ≤ a from h]
  · rw [if_neg h]
    simp [show ¬ b ≤ a from h]
theorem within_eq (a b c : Int) : impl_within.f a b c = some (decide (b ≤ a ∧ a ≤ c)) := by
  unfold impl_within.f
  by_cases h : b ≤ a
  · rw [if_pos h]
    simp [h]
  · rw [if_neg h]
    simp [h]
theorem same (a b : Int) : impl_FewestRisers.f a b = spec_FewestRisers.f a b := by
  simp only [impl_FewestRisers.f, spec_FewestRisers.f, impl_isHigh.f, spec_riHigh.f, in_eq, within_eq, Option.bind_some]
theorem some_ (a b : Int) : ∃ r, spec_FewestRisers.f a b = some r := by
  simp only [spec_FewestRisers.f, spec_riHigh.f, in_eq, Option.bind_some, decide_eq_true_eq]
  repeat' split
  all_goals first | exact ⟨_, rfl⟩ | omega
theorem FnExactFewestRisers : laws_FnExactFewestRisers.Pure := by
  intro a0 a1 _ _
  obtain ⟨r, hr⟩ := some_ a0 a1
  simp [laws_FnExactFewestRisers.f, same, hr]

end Go.Proofs.Ytaljoonmejmlcaa.Pure
