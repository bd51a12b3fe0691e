/- The plain law of FnExactAreOpposite: what the reference's function tells, the program's function tells, for every input. No further condition. -/
import Derived.Test.YtdokbcjmnfobfaaOx1
namespace Go.Proofs.Ytdokbcjmnfobfaa.Pure
open Go.RowKit Go.Proofs.Ytdokbcjmnfobfaa.O Go.Proofs.YtdokbcjmnfobfaaW.PrintWords Go.Proofs.YtdokbcjmnfobfaaW.PrintLast
set_option linter.unusedVariables false
set_option linter.unusedSimpArgs false

theorem in_eq (a b c : Int) : spec_l1In.f a b c = some (decide (b ≤ a ∧ a ≤ c)) := by
  unfold spec_l1In.f
  by_cases h : a ≥ b
  · rw [if_pos h]
    simp [show b ≤ a from h]
  · rw [if_neg h]
    simp [show ¬ b ≤ a from h]
theorem within_eq (a b c : Int) : impl_within.f a b c = some (decide (b ≤ a ∧ a ≤ c)) := by
  unfold impl_within.f
  by_cases h : b ≤ a
  · rw [if_pos h]
    simp [h]
  · rw [if_neg h]
    simp [h]
def spB (a b c : Int) : Bool := decide ((1 ≤ a ∧ a ≤ 400) ∧ (3 ≤ b ∧ b ≤ 60) ∧ 1 ≤ c ∧ c ≤ 300)
theorem spGood_eq (a b c : Int) : spec_spGood.f a b c = some (spB a b c) := by
  simp only [spec_spGood.f, in_eq, Option.bind_some, spB, decide_eq_true_eq]
  by_cases h1 : 1 ≤ a ∧ a ≤ 400 <;> by_cases h2 : 3 ≤ b ∧ b ≤ 60 <;> simp [h1, h2]
theorem isSpiral_eq (a b c : Int) : impl_IsSpiral.f a b c = some (spB a b c) := by
  simp only [impl_IsSpiral.f, within_eq, Option.bind_some, spB, decide_eq_true_eq]
  by_cases h1 : 1 ≤ a ∧ a ≤ 400 <;> by_cases h2 : 3 ≤ b ∧ b ≤ 60 <;> simp [h1, h2]
def stB (a b c s : Int) : Bool := decide (spB a b c = true ∧ 1 ≤ s ∧ s ≤ a)
theorem spStep_eq (a b c s : Int) : spec_spStep.f a b c s = some (stB a b c s) := by
  simp only [spec_spStep.f, spGood_eq, in_eq, Option.bind_some, stB]
  by_cases h1 : spB a b c = true <;> simp [h1]
theorem rd_zero (x : Int) (l : List Int) : rd (x :: l) 0 = x := rfl
theorem rd_one (x y : Int) (l : List Int) : rd (x :: y :: l) 1 = y := rfl
theorem has_eq (k : Nat) (a b c s : Int) : impl_Spiral_has.f (k + 2) a b c [s] = some (stB a b c s) := by
  have e : wrap64 (0 + 1) = 1 := by unfold wrap64; omega
  simp only [impl_Spiral_has.f, impl_Spiral_has.l0, List.length_singleton, rd_zero, within_eq, isSpiral_eq, Option.bind_some, e, stB]
  by_cases h1 : 1 ≤ s ∧ s ≤ a <;> simp [h1]
theorem most_eq (a b : Int) : spec_l1Most.f a b = some (mx a b) := by
  unfold spec_l1Most.f mx
  split <;> congr 1 <;> (try split) <;> omega
theorem wr {x : Int} (h0 : -9223372036854775808 ≤ x) (h1 : x ≤ 9223372036854775807) : wrap64 x = x := by
  unfold wrap64
  omega
theorem has2_eq (k : Nat) (a b c s t : Int) : impl_Spiral_has.f (k + 3) a b c [s, t] = some (stB a b c s && stB a b c t) := by
  have e : wrap64 (0 + 1) = 1 := by unfold wrap64; omega
  have e1 : wrap64 (1 + 1) = 2 := by unfold wrap64; omega
  have l : (([s, t] : List Int).length : Int) = 2 := rfl
  simp only [impl_Spiral_has.f, impl_Spiral_has.l0, l, rd_zero, rd_one, within_eq, isSpiral_eq, Option.bind_some, e, e1, stB]
  by_cases h1 : 1 ≤ s ∧ s ≤ a <;> by_cases h2 : 1 ≤ t ∧ t ≤ a <;> simp [h1, h2]
theorem opp (a b c s t : Int) (h : spB a b c = true) (hs : 1 ≤ s ∧ s ≤ a) (ht : 1 ≤ t ∧ t ≤ a) : ∃ r, spec_spOpposite.f a b c s t = some r ∧ impl_Spiral_opposite.f a b c s t = some r := by
  have hb := of_decide_eq_true h
  have e1 : wrap64 (s - t) = s - t := wr (by omega) (by omega)
  have e2 : wrap64 (t - s) = t - s := wr (by omega) (by omega)
  have e3 : wrap64 (-(s - t)) = t - s := by rw [wr (by omega) (by omega)]; omega
  have e4 : wrap64 (2 * b) = 2 * b := wr (by omega) (by omega)
  simp only [spec_spOpposite.f, spec_l1Abs.f, impl_Spiral_opposite.f, most_eq, e1, e2, e3, e4, Option.bind_some]
  rw [if_neg (by omega), if_neg (by omega)]
  have hm : 0 ≤ mx (s - t) (t - s) ∧ mx (s - t) (t - s) ≤ 400 := by unfold mx; split <;> omega
  generalize mx (s - t) (t - s) = m at hm
  have e5 : wrap64 (2 * m) = 2 * m := wr (by omega) (by omega)
  have e6 : Int.tmod m b = m % b := Int.tmod_eq_emod_of_nonneg hm.1
  have e7 : Int.tmod (2 * m) (2 * b) = 2 * (m % b) := by
    rw [Int.tmod_eq_emod_of_nonneg (by omega), Int.mul_emod_mul_of_pos _ _ (by omega)]
  have z := Int.emod_lt_of_pos m (show 0 < b by omega)
  have z0 := Int.emod_nonneg m (show b ≠ 0 by omega)
  rw [e5, e6, e7, wr (by omega) (by omega)]
  exact ⟨_, rfl, rfl⟩
theorem val (a b c s t : Int) : ∃ r, spec_AreOpposite.f a b c s t = some r ∧ impl_AreOpposite.f 3 a b c s t = some r := by
  simp only [spec_AreOpposite.f, impl_AreOpposite.f, spStep_eq, has2_eq 0, Option.bind_some]
  by_cases h1 : stB a b c s = true
  · by_cases h2 : stB a b c t = true
    · have g1 := of_decide_eq_true h1
      have g2 := of_decide_eq_true h2
      obtain ⟨r, k1, k2⟩ := opp a b c s t g1.1 g1.2 g2.2
      simp [h1, h2, k1, k2]
    · simp [h1, h2]
  · simp [h1]
theorem FnExactAreOpposite (a0_0 : Int) (a0_1 : Int) (a0_2 : Int) (a1 : Int) (a2 : Int) (w0_0 : (Lit.int .i64 a0_0).wf = true) (w0_1 : (Lit.int .i64 a0_1).wf = true) (w0_2 : (Lit.int .i64 a0_2).wf = true) (w1 : (Lit.int .i64 a1).wf = true) (w2 : (Lit.int .i64 a2).wf = true) : ∃ k, laws_FnExactAreOpposite.f k a0_0 a0_1 a0_2 a1 a2 = some true := by
  obtain ⟨r, h1, h2⟩ := val a0_0 a0_1 a0_2 a1 a2
  exact ⟨3, by simp [laws_FnExactAreOpposite.f, laws_toSpiral.f, h1, h2]⟩

end Go.Proofs.Ytdokbcjmnfobfaa.Pure
