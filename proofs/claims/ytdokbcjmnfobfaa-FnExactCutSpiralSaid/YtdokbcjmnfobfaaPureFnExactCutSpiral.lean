/- The plain law of FnExactCutSpiral: what the reference's function tells, the program's function tells, for every input. No further condition. -/
import Derived.Test.YtdokbcjmnfobfaaPFnExactCutSpiralx2
namespace Go.Proofs.Ytdokbcjmnfobfaa.Pure
open Go.RowKit Go.Proofs.Ytdokbcjmnfobfaa.PFnExactCutSpiral Go.Proofs.YtdokbcjmnfobfaaW.PrintWords Go.Proofs.YtdokbcjmnfobfaaW.PrintLast
set_option linter.unusedVariables false
set_option linter.unusedSimpArgs false

theorem in_eq (a b c : Int) : spec_l1In.f a b c = some (decide (b ≤ a ∧ a ≤ c)) := by
  unfold spec_l1In.f
  by_cases h : a ≥ b
  · rw [if_pos h]
    simp [show b ≤ a from h]
  · rw [if_neg h]
    simp [show ¬ b ≤ a from h]
theorem within_eq (a b c : Int) : impl_within.f a b c = some (decide (b ≤ a ∧ a ≤ c)) := by
  unfold impl_within.f
  by_cases h : b ≤ a
  · rw [if_pos h]
    simp [h]
  · rw [if_neg h]
    simp [h]
def spB (a b c : Int) : Bool := decide ((1 ≤ a ∧ a ≤ 400) ∧ (3 ≤ b ∧ b ≤ 60) ∧ 1 ≤ c ∧ c ≤ 300)
theorem spGood_eq (a b c : Int) : spec_spGood.f a b c = some (spB a b c) := by
  simp only [spec_spGood.f, in_eq, Option.bind_some, spB, decide_eq_true_eq]
  by_cases h1 : 1 ≤ a ∧ a ≤ 400 <;> by_cases h2 : 3 ≤ b ∧ b ≤ 60 <;> simp [h1, h2]
theorem isSpiral_eq (a b c : Int) : impl_IsSpiral.f a b c = some (spB a b c) := by
  simp only [impl_IsSpiral.f, within_eq, Option.bind_some, spB, decide_eq_true_eq]
  by_cases h1 : 1 ≤ a ∧ a ≤ 400 <;> by_cases h2 : 3 ≤ b ∧ b ≤ 60 <;> simp [h1, h2]
def stB (a b c s : Int) : Bool := decide (spB a b c = true ∧ 1 ≤ s ∧ s ≤ a)
theorem spStep_eq (a b c s : Int) : spec_spStep.f a b c s = some (stB a b c s) := by
  simp only [spec_spStep.f, spGood_eq, in_eq, Option.bind_some, stB]
  by_cases h1 : spB a b c = true <;> simp [h1]
theorem rd_zero (x : Int) (l : List Int) : rd (x :: l) 0 = x := rfl
theorem rd_one (x y : Int) (l : List Int) : rd (x :: y :: l) 1 = y := rfl
theorem has_eq (k : Nat) (a b c s : Int) : impl_Spiral_has.f (k + 2) a b c [s] = some (stB a b c s) := by
  have e : wrap64 (0 + 1) = 1 := by unfold wrap64; omega
  simp only [impl_Spiral_has.f, impl_Spiral_has.l0, List.length_singleton, rd_zero, within_eq, isSpiral_eq, Option.bind_some, e, stB]
  by_cases h1 : 1 ≤ s ∧ s ≤ a <;> simp [h1]
theorem same (a b c s : Int) : impl_CutSpiral.f 2 a b c s = spec_CutSpiral.f a b c s := by
  simp only [impl_CutSpiral.f, spec_CutSpiral.f, spStep_eq, has_eq 0, Option.bind_some]
theorem some_ (a b c s : Int) : ∃ r, spec_CutSpiral.f a b c s = some r := by
  simp only [spec_CutSpiral.f, spStep_eq, Option.bind_some]
  repeat' split
  all_goals exact ⟨_, rfl⟩
theorem FnExactCutSpiral (a0_0 : Int) (a0_1 : Int) (a0_2 : Int) (a1 : Int) (w0_0 : (Lit.int .i64 a0_0).wf = true) (w0_1 : (Lit.int .i64 a0_1).wf = true) (w0_2 : (Lit.int .i64 a0_2).wf = true) (w1 : (Lit.int .i64 a1).wf = true) : ∃ k, laws_FnExactCutSpiral.f k a0_0 a0_1 a0_2 a1 = some true := by
  obtain ⟨r, hr⟩ := some_ a0_0 a0_1 a0_2 a1
  exact ⟨2, by simp [laws_FnExactCutSpiral.f, laws_toSpiral.f, laws_eqSpiral.f, same, hr]⟩

end Go.Proofs.Ytdokbcjmnfobfaa.Pure
