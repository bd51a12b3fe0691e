/- The plain law of FnExactTimesFlight: what the reference's function tells, the program's function tells, for every input. No further condition. -/
import Derived.Test.YtdokbcjmnfobfaaPFnExactTimesFlightx1
namespace Go.Proofs.Ytdokbcjmnfobfaa.Pure
open Go.RowKit Go.Proofs.Ytdokbcjmnfobfaa.PFnExactTimesFlight Go.Proofs.YtdokbcjmnfobfaaW.PrintWords Go.Proofs.YtdokbcjmnfobfaaW.PrintLast
set_option linter.unusedVariables false
set_option linter.unusedSimpArgs false

theorem in_eq (a b c : Int) : spec_l1In.f a b c = some (decide (b ≤ a ∧ a ≤ c)) := by
  unfold spec_l1In.f
  by_cases h : a ≥ b
  · rw [if_pos h]
    simp [show b ≤ a from h]
  · rw [if_neg h]
    simp [show ¬ b ≤ a from h]
theorem within_eq (a b c : Int) : impl_within.f a b c = some (decide (b ≤ a ∧ a ≤ c)) := by
  unfold impl_within.f
  by_cases h : b ≤ a
  · rw [if_pos h]
    simp [h]
  · rw [if_neg h]
    simp [h]
def flB (a b c : Int) : Bool := decide ((1 ≤ a ∧ a ≤ 100) ∧ (1 ≤ b ∧ b ≤ 250) ∧ 1 ≤ c ∧ c ≤ 500)
theorem riGood_eq (a b c : Int) : spec_riGood.f a b c = some (flB a b c) := by
  simp only [spec_riGood.f, in_eq, Option.bind_some, flB, decide_eq_true_eq]
  by_cases h1 : 1 ≤ a ∧ a ≤ 100 <;> by_cases h2 : 1 ≤ b ∧ b ≤ 250 <;> simp [h1, h2]
theorem isFlight_eq (a b c : Int) : impl_IsFlight.f a b c = some (flB a b c) := by
  simp only [impl_IsFlight.f, within_eq, Option.bind_some, flB, decide_eq_true_eq]
  by_cases h1 : 1 ≤ a ∧ a ≤ 100 <;> by_cases h2 : 1 ≤ b ∧ b ≤ 250 <;> simp [h1, h2]
theorem same (a b c s : Int) : impl_TimesFlight.f 1 a b c s = spec_TimesFlight.f 1 a b c s := by
  simp only [impl_TimesFlight.f, spec_TimesFlight.f, impl_TimesFlight.j0, spec_TimesFlight.j0, in_eq, within_eq, riGood_eq, isFlight_eq, Option.bind_some]
theorem some_ (a b c s : Int) : ∃ r, spec_TimesFlight.f 1 a b c s = some r := by
  simp only [spec_TimesFlight.f, spec_TimesFlight.j0, in_eq, riGood_eq, Option.bind_some]
  repeat' split
  all_goals exact ⟨_, rfl⟩
theorem FnExactTimesFlight (a0_0 : Int) (a0_1 : Int) (a0_2 : Int) (a1 : Int) (w0_0 : (Lit.int .i64 a0_0).wf = true) (w0_1 : (Lit.int .i64 a0_1).wf = true) (w0_2 : (Lit.int .i64 a0_2).wf = true) (w1 : (Lit.int .i64 a1).wf = true) : ∃ k, laws_FnExactTimesFlight.f k a0_0 a0_1 a0_2 a1 = some true := by
  obtain ⟨r, hr⟩ := some_ a0_0 a0_1 a0_2 a1
  exact ⟨1, by simp [laws_FnExactTimesFlight.f, laws_toFlight.f, laws_eqFlight.f, same, hr]⟩

end Go.Proofs.Ytdokbcjmnfobfaa.Pure
