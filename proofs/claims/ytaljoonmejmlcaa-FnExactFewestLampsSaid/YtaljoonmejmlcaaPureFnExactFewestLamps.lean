/- The plain law of FnExactFewestLamps: what the reference's function tells, the program's function tells, for every input. No further condition. -/
import Derived.Test.YtaljoonmejmlcaaPFnExactFewestLampsx1
namespace Go.Proofs.Ytaljoonmejmlcaa.Pure
open Go.RowKit Go.Proofs.Ytaljoonmejmlcaa.PFnExactFewestLamps Go.Proofs.YtaljoonmejmlcaaW.PrintWords Go.Proofs.YtaljoonmejmlcaaW.PrintLast
set_option linter.unusedVariables false
set_option linter.unusedSimpArgs false

theorem in_eq (a b c : Int) : spec_l1In.f a b c = some (decide (b ≤ a ∧ a ≤ c)) := by
  unfold spec_l1In.f
  by_cases h : a ≥ b
  · rw [if_pos h]
    simp [show b ≤ a from h]
  · rw [if_neg h]
    simp [show ¬ b ≤ a from h]
theorem within_eq (a b c : Int) : impl_within.f a b c = some (decide (b ≤ a ∧ a ≤ c)) := by
  unfold impl_within.f
  by_cases h : b ≤ a
  · rw [if_pos h]
    simp [h]
  · rw [if_neg h]
    simp [h]
def spB (a b c : Int) : Bool := decide ((1 ≤ a ∧ a ≤ 400) ∧ (3 ≤ b ∧ b ≤ 60) ∧ 1 ≤ c ∧ c ≤ 300)
theorem spGood_eq (a b c : Int) : spec_spGood.f a b c = some (spB a b c) := by
  simp only [spec_spGood.f, in_eq, Option.bind_some, spB, decide_eq_true_eq]
  by_cases h1 : 1 ≤ a ∧ a ≤ 400 <;> by_cases h2 : 3 ≤ b ∧ b ≤ 60 <;> simp [h1, h2]
theorem isSpiral_eq (a b c : Int) : impl_IsSpiral.f a b c = some (spB a b c) := by
  simp only [impl_IsSpiral.f, within_eq, Option.bind_some, spB, decide_eq_true_eq]
  by_cases h1 : 1 ≤ a ∧ a ≤ 400 <;> by_cases h2 : 3 ≤ b ∧ b ≤ 60 <;> simp [h1, h2]
theorem same (a b c s : Int) : impl_FewestLamps.f a b c s = spec_FewestLamps.f a b c s := by
  simp only [impl_FewestLamps.f, spec_FewestLamps.f, in_eq, within_eq, spGood_eq, isSpiral_eq, Option.bind_some]
theorem some_ (a b c s : Int) : ∃ r, spec_FewestLamps.f a b c s = some r := by
  simp only [spec_FewestLamps.f, in_eq, spGood_eq, Option.bind_some, decide_eq_true_eq]
  repeat' split
  all_goals first | exact ⟨_, rfl⟩ | (unfold wrap64 at *; omega)
theorem FnExactFewestLamps (a0_0 : Int) (a0_1 : Int) (a0_2 : Int) (a1 : Int) (w0_0 : (Lit.int .i64 a0_0).wf = true) (w0_1 : (Lit.int .i64 a0_1).wf = true) (w0_2 : (Lit.int .i64 a0_2).wf = true) (w1 : (Lit.int .i64 a1).wf = true) : laws_FnExactFewestLamps.f a0_0 a0_1 a0_2 a1 = some true := by
  obtain ⟨r, hr⟩ := some_ a0_0 a0_1 a0_2 a1
  simp [laws_FnExactFewestLamps.f, laws_toSpiral.f, same, hr]

end Go.Proofs.Ytaljoonmejmlcaa.Pure
