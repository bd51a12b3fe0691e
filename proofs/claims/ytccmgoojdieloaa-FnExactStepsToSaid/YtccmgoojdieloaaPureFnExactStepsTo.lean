/- The plain law of FnExactStepsTo: what the reference's function tells, the program's function tells, for every input. No further condition. -/
import Derived.Test.YtccmgoojdieloaaHx5
import Derived.Test.YtccmgoojdieloaaHB
import Derived.Test.YtccmgoojdieloaaHS
import Derived.Test.YtccmgoojdieloaaHW
namespace Go.Proofs.Ytccmgoojdieloaa.Pure
open Go.RowKit Go.Proofs.Ytccmgoojdieloaa.H Go.Proofs.YtccmgoojdieloaaW.PrintWords Go.Proofs.YtccmgoojdieloaaW.PrintLast
set_option linter.unusedVariables false
set_option linter.unusedSimpArgs false

theorem val (s d : List Int) (a : Int) (hs : s.length ≤ 1048576) (hd : d.length ≤ 1048576) : ∃ r, ∀ k, 2000000 < k → spec_StepsTo.f k s d a = some r ∧ impl_StepsTo.f k s d a = some r := by
  by_cases h : hsB s d = true
  · have h0 : (0 : Int) ≤ 0 ∧ (0 : Int) ≤ (s.length : Int) := ⟨by omega, by omega⟩
    by_cases ha : 0 ≤ a ∧ a ≤ (s.length : Int)
    · have e1 : mx 0 a = a := by unfold mx; split <;> omega
      have e2 : mn 0 a = 0 := by unfold mn; split <;> omega
      refine ⟨(isum (s.take a.toNat), true), fun k hk => ?_⟩
      have g := (between_val s d h 0 a h0 ha k (by omega)).1
      rw [e1, e2] at g
      simp [isum] at g
      simp [spec_StepsTo.f, impl_StepsTo.f, impl_StepsBetween.f, ldFloor_eq s d hd k (by omega), isHouse_eq s d (by omega), h, isFloor_eq s d h, ha, g, ldTo_val s d h a ha k (by omega)]
    · refine ⟨(0, false), fun k hk => ?_⟩
      simp [spec_StepsTo.f, impl_StepsTo.f, impl_StepsBetween.f, ldFloor_eq s d hd k (by omega), isHouse_eq s d (by omega), h, isFloor_eq s d h, ha]
  · refine ⟨(0, false), fun k hk => ?_⟩
    simp [spec_StepsTo.f, impl_StepsTo.f, impl_StepsBetween.f, ldFloor_eq s d hd k (by omega), isHouse_eq s d (by omega), h]
theorem FnExactStepsTo (l0_0 : List Int) (l0_1 : List Int) (a1 : Int) (m0_0 : l0_0.length ≤ maxLen) (w0_0 : ∀ x ∈ l0_0, (Lit.int .i64 x).wf = true) (m0_1 : l0_1.length ≤ maxLen) (w0_1 : ∀ x ∈ l0_1, (Lit.int .i64 x).wf = true) (w1 : (Lit.int .i64 a1).wf = true) : ∃ k, laws_FnExactStepsTo.f k l0_0 l0_1 a1 = some true := by
  rcases sz_val l0_0 l0_1 m0_0 m0_1 with ⟨hs, hd, n, e, hn⟩ | ⟨n, e, hn⟩
  · obtain ⟨r, h⟩ := val l0_0 l0_1 a1 (by omega) (by omega)
    have main : ∀ m : Nat, 2000001 ≤ m → laws_FnExactStepsTo.f (m + 1) l0_0 l0_1 a1 = some true := by
      intro m hm
      simp only [laws_FnExactStepsTo.f, laws_FnExactStepsTo.j0, e, Option.bind_some, if_neg hn, toHouse_val l0_0 l0_1 hs hd (m + 1) (by omega), toHouse_val l0_0 l0_1 hs hd m (by omega), (h (m + 1) (by omega)).1, (h (m + 1) (by omega)).2, eqHouse_val l0_0 l0_1 hs hd m (by omega)]
      simp
    exact ⟨2000001 + 1, main 2000001 (Nat.le_refl _)⟩
  · exact ⟨0, by simp only [laws_FnExactStepsTo.f, e, Option.bind_some, if_pos hn]⟩

end Go.Proofs.Ytccmgoojdieloaa.Pure
