/- The plain law of FnExactHeadRoom: what the reference's function tells, the program's function tells, for every input. No further condition. -/
import Derived.Test.YtdokbcjmnfobfaaPFnExactHeadRoomx1
namespace Go.Proofs.Ytdokbcjmnfobfaa.Pure
open Go.RowKit Go.Proofs.Ytdokbcjmnfobfaa.PFnExactHeadRoom Go.Proofs.YtdokbcjmnfobfaaW.PrintWords Go.Proofs.YtdokbcjmnfobfaaW.PrintLast
set_option linter.unusedVariables false
set_option linter.unusedSimpArgs false

theorem in_eq (a b c : Int) : spec_l1In.f a b c = some (decide (b ≤ a ∧ a ≤ c)) := by
  unfold spec_l1In.f
  by_cases h : a ≥ b
  · rw [if_pos h]
    simp [show b ≤ a from h]
  · rw [if_neg h]
    simp [show ¬ b ≤ a from h]
theorem within_eq (a b c : Int) : impl_within.f a b c = some (decide (b ≤ a ∧ a ≤ c)) := by
  unfold impl_within.f
  by_cases h : b ≤ a
  · rw [if_pos h]
    simp [h]
  · rw [if_neg h]
    simp [h]
def flB (a b c : Int) : Bool := decide ((1 ≤ a ∧ a ≤ 100) ∧ (1 ≤ b ∧ b ≤ 250) ∧ 1 ≤ c ∧ c ≤ 500)
theorem riGood_eq (a b c : Int) : spec_riGood.f a b c = some (flB a b c) := by
  simp only [spec_riGood.f, in_eq, Option.bind_some, flB, decide_eq_true_eq]
  by_cases h1 : 1 ≤ a ∧ a ≤ 100 <;> by_cases h2 : 1 ≤ b ∧ b ≤ 250 <;> simp [h1, h2]
theorem isFlight_eq (a b c : Int) : impl_IsFlight.f a b c = some (flB a b c) := by
  simp only [impl_IsFlight.f, within_eq, Option.bind_some, flB, decide_eq_true_eq]
  by_cases h1 : 1 ≤ a ∧ a ≤ 100 <;> by_cases h2 : 1 ≤ b ∧ b ≤ 250 <;> simp [h1, h2]
theorem least_eq (a b : Int) : spec_l1Least.f a b = some (mn a b) := by
  unfold spec_l1Least.f mn
  split <;> congr 1 <;> (try split) <;> omega
def plB (a b c p : Int) : Bool := flB a b c && decide (-1000 ≤ p ∧ p ≤ wrap64 (wrap64 (wrap64 (a - 1) * c) + 1000))
def atV (a b c p : Int) : Int := if p < 0 then 0 else wrap64 (mn a (wrap64 (wrap64 (Int.tdiv p c) + 1)) * b)
theorem riPlace_eq (a b c p : Int) : spec_riPlace.f a b c p = some (plB a b c p) := by
  simp only [spec_riPlace.f, riGood_eq, in_eq, Option.bind_some, plB]
  by_cases h : flB a b c = true <;> simp [h]
theorem riAt_eq (a b c p : Int) (h : plB a b c p = true) : spec_riAt.f a b c p = some (atV a b c p) := by
  simp only [plB, Bool.and_eq_true] at h
  have hb := of_decide_eq_true h.1
  simp only [spec_riAt.f, least_eq, Option.bind_some, atV]
  rw [if_neg (show ¬ c = 0 by omega)]
  split <;> rfl
theorem har_eq (k : Nat) (a b c p : Int) : impl_HeightAtRun.f (k + 1) a b c p = some (if plB a b c p = true then (atV a b c p, true) else (0, false)) := by
  simp only [impl_HeightAtRun.f, impl_HeightAtRun.j0, impl_Flight_run.f, isFlight_eq, within_eq, Option.bind_some]
  by_cases h : plB a b c p = true
  · have h' := h
    simp only [plB, Bool.and_eq_true] at h'
    have hb := of_decide_eq_true h'.1
    have hq := of_decide_eq_true h'.2
    simp only [h'.1, hq, and_self, decide_true, Bool.not_true, Bool.false_eq_true, if_false, if_true, h, atV]
    rw [if_neg (show ¬ c = 0 by omega)]
    split <;> rfl
  · have h' := h
    simp only [plB, Bool.and_eq_true, not_and] at h'
    by_cases g : flB a b c = true
    · have := h' g
      simp only [g, h, if_true, Bool.eq_false_iff.mpr this, Bool.not_false, if_false, Bool.false_eq_true]
    · simp [g, h]
theorem val (a b c s p : Int) : ∃ r, spec_HeadRoom.f a b c s p = some r ∧ impl_HeadRoom.f 1 a b c s p = some r := by
  simp only [spec_HeadRoom.f, impl_HeadRoom.f, har_eq 0, riPlace_eq, in_eq, within_eq, Option.bind_some]
  by_cases h : plB a b c p = true
  · by_cases g : 1 ≤ s ∧ s ≤ 20000
    · by_cases e : atV a b c p ≥ s
      · simp [h, g, riAt_eq a b c p h, e]
      · simp [h, g, riAt_eq a b c p h, e]
    · simp [h, g]
  · simp [h]
theorem FnExactHeadRoom (a0_0 : Int) (a0_1 : Int) (a0_2 : Int) (a1 : Int) (a2 : Int) (w0_0 : (Lit.int .i64 a0_0).wf = true) (w0_1 : (Lit.int .i64 a0_1).wf = true) (w0_2 : (Lit.int .i64 a0_2).wf = true) (w1 : (Lit.int .i64 a1).wf = true) (w2 : (Lit.int .i64 a2).wf = true) : ∃ k, laws_FnExactHeadRoom.f k a0_0 a0_1 a0_2 a1 a2 = some true := by
  obtain ⟨r, h1, h2⟩ := val a0_0 a0_1 a0_2 a1 a2
  exact ⟨1, by simp [laws_FnExactHeadRoom.f, laws_toFlight.f, h1, h2]⟩

end Go.Proofs.Ytdokbcjmnfobfaa.Pure
