/- The plain law of FnExactLeastRound: what the reference's function tells, the program's function tells, for every input. No further condition. -/
import Derived.Test.YtaljoonmejmlcaaPFnExactLeastRoundx1
namespace Go.Proofs.Ytaljoonmejmlcaa.Pure
open Go.RowKit Go.Proofs.Ytaljoonmejmlcaa.PFnExactLeastRound Go.Proofs.YtaljoonmejmlcaaW.PrintWords Go.Proofs.YtaljoonmejmlcaaW.PrintLast
set_option linter.unusedVariables false
set_option linter.unusedSimpArgs false

theorem in_eq (a b c : Int) : spec_l1In.f a b c = some (decide (b ≤ a ∧ a ≤ c)) := by
  unfold spec_l1In.f
  by_cases h : a ≥ b
  · rw [if_pos h]
    simp [show b ≤ a from h]
  · rw [if_neg h]
    simp [show ¬ b ≤ a from h]
theorem within_eq (a b c : Int) : impl_within.f a b c = some (decide (b ≤ a ∧ a ≤ c)) := by
  unfold impl_within.f
  by_cases h : b ≤ a
  · rw [if_pos h]
    simp [h]
  · rw [if_neg h]
    simp [h]
theorem most_eq (a b : Int) : spec_l1Most.f a b = some (mx a b) := by
  unfold spec_l1Most.f mx
  split <;> congr 1 <;> (try split) <;> omega
theorem same (a b : Int) : impl_LeastRound.f 1 a b = spec_LeastRound.f 1 a b := by
  simp only [impl_LeastRound.f, spec_LeastRound.f, impl_LeastRound.j0, spec_LeastRound.j0, in_eq, within_eq, most_eq, Option.bind_some]
theorem some_ (a b : Int) : ∃ r, spec_LeastRound.f 1 a b = some r := by
  by_cases h1 : 1 ≤ a ∧ a ≤ 300 <;> by_cases h2 : 0 ≤ b ∧ b ≤ 20000
  all_goals simp only [spec_LeastRound.f, spec_LeastRound.j0, in_eq, most_eq, Option.bind_some, h1, h2, and_self, decide_true, decide_false, if_true, Bool.not_true, Bool.not_false, Bool.false_eq_true, if_false]
  · rw [if_neg (show ¬ a = 0 by omega)]
    split
    all_goals exact ⟨_, rfl⟩
  all_goals exact ⟨_, rfl⟩
theorem FnExactLeastRound : laws_FnExactLeastRound.Pure := by
  intro a0 a1 _ _
  obtain ⟨r, hr⟩ := some_ a0 a1
  exact ⟨1, by simp [laws_FnExactLeastRound.f, same, hr]⟩

end Go.Proofs.Ytaljoonmejmlcaa.Pure
