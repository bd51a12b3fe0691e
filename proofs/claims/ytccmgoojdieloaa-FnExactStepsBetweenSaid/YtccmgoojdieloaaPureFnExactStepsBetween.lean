/- The plain law of FnExactStepsBetween: what the reference's function tells, the program's function tells, for every input. No further condition. -/
import Derived.Test.YtccmgoojdieloaaHx44
import Derived.Test.YtccmgoojdieloaaHB
import Derived.Test.YtccmgoojdieloaaHS
import Derived.Test.YtccmgoojdieloaaHW
namespace Go.Proofs.Ytccmgoojdieloaa.Pure
open Go.RowKit Go.Proofs.Ytccmgoojdieloaa.H Go.Proofs.YtccmgoojdieloaaW.PrintWords Go.Proofs.YtccmgoojdieloaaW.PrintLast
set_option linter.unusedVariables false
set_option linter.unusedSimpArgs false

theorem most_eq (a b : Int) : spec_l1Most.f a b = some (mx a b) := by
  unfold spec_l1Most.f mx
  split <;> congr 1 <;> (try split) <;> omega
theorem ldBetween_val (s d : List Int) (h : hsB s d = true) (a b : Int) (ha : 0 ≤ a ∧ a ≤ (s.length : Int)) (hb : 0 ≤ b ∧ b ≤ (s.length : Int)) (k : Nat) (hk : 21 ≤ k) :
    spec_ldBetween.f k s d a b = some (isum (s.take (mx a b).toNat) - isum (s.take (mn a b).toNat)) := by
  have g := (between_val s d h a b ha hb k hk).2
  have b1 := ((small_s h).take a.toNat).bd
  have b2 := ((small_s h).take b.toNat).bd
  simp only [spec_ldBetween.f, spec_l1Abs.f, ldTo_val s d h a ha k hk, ldTo_val s d h b hb k hk, most_eq, Option.bind_some]
  rw [wr (x := isum (s.take a.toNat) - isum (s.take b.toNat)) (by omega) (by omega), wr (x := -(isum (s.take a.toNat) - isum (s.take b.toNat))) (by omega) (by omega)]
  congr 1
  by_cases c : a < b
  · have e1 : mx a b = b := by unfold mx; rw [if_pos c]
    have e2 : mn a b = a := by unfold mn; rw [if_neg (by omega)]
    rw [e1, e2] at g ⊢
    unfold mx
    split <;> omega
  · have e1 : mx a b = a := by unfold mx; rw [if_neg c]
    have e2 : mn a b = b := by
      unfold mn
      split
      · rfl
      · omega
    rw [e1, e2] at g ⊢
    unfold mx
    split <;> omega
theorem val (s d : List Int) (a b : Int) (hs : s.length ≤ 1048576) (hd : d.length ≤ 1048576) : ∃ r, ∀ k, 2000000 < k → spec_StepsBetween.f k s d a b = some r ∧ impl_StepsBetween.f k s d a b = some r := by
  by_cases h : hsB s d = true
  · by_cases ha : 0 ≤ a ∧ a ≤ (s.length : Int)
    · by_cases hb : 0 ≤ b ∧ b ≤ (s.length : Int)
      · refine ⟨(isum (s.take (mx a b).toNat) - isum (s.take (mn a b).toNat), true), fun k hk => ?_⟩
        simp [spec_StepsBetween.f, impl_StepsBetween.f, ldFloor_eq s d hd k (by omega), isHouse_eq s d (by omega), h, isFloor_eq s d h, ha, hb, (between_val s d h a b ha hb k (by omega)).1, ldBetween_val s d h a b ha hb k (by omega)]
      · refine ⟨(0, false), fun k hk => ?_⟩
        simp [spec_StepsBetween.f, impl_StepsBetween.f, ldFloor_eq s d hd k (by omega), isHouse_eq s d (by omega), h, isFloor_eq s d h, ha, hb]
    · refine ⟨(0, false), fun k hk => ?_⟩
      simp [spec_StepsBetween.f, impl_StepsBetween.f, ldFloor_eq s d hd k (by omega), isHouse_eq s d (by omega), h, isFloor_eq s d h, ha]
  · refine ⟨(0, false), fun k hk => ?_⟩
    simp [spec_StepsBetween.f, impl_StepsBetween.f, ldFloor_eq s d hd k (by omega), isHouse_eq s d (by omega), h]
theorem FnExactStepsBetween (l0_0 : List Int) (l0_1 : List Int) (a1 : Int) (a2 : Int) (m0_0 : l0_0.length ≤ maxLen) (w0_0 : ∀ x ∈ l0_0, (Lit.int .i64 x).wf = true) (m0_1 : l0_1.length ≤ maxLen) (w0_1 : ∀ x ∈ l0_1, (Lit.int .i64 x).wf = true) (w1 : (Lit.int .i64 a1).wf = true) (w2 : (Lit.int .i64 a2).wf = true) : ∃ k, laws_FnExactStepsBetween.f k l0_0 l0_1 a1 a2 = some true := by
  rcases sz_val l0_0 l0_1 m0_0 m0_1 with ⟨hs, hd, n, e, hn⟩ | ⟨n, e, hn⟩
  · obtain ⟨r, h⟩ := val l0_0 l0_1 a1 a2 (by omega) (by omega)
    have main : ∀ m : Nat, 2000001 ≤ m → laws_FnExactStepsBetween.f (m + 1) l0_0 l0_1 a1 a2 = some true := by
      intro m hm
      simp only [laws_FnExactStepsBetween.f, laws_FnExactStepsBetween.j0, e, Option.bind_some, if_neg hn, toHouse_val l0_0 l0_1 hs hd (m + 1) (by omega), toHouse_val l0_0 l0_1 hs hd m (by omega), (h (m + 1) (by omega)).1, (h (m + 1) (by omega)).2, eqHouse_val l0_0 l0_1 hs hd m (by omega)]
      simp
    exact ⟨2000001 + 1, main 2000001 (Nat.le_refl _)⟩
  · exact ⟨0, by simp only [laws_FnExactStepsBetween.f, e, Option.bind_some, if_pos hn]⟩

end Go.Proofs.Ytccmgoojdieloaa.Pure
