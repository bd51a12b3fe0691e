/- The plain law of FnExactDoorsOfFloor: what the reference's function tells, the program's function tells, for every input. No further condition. -/
import Derived.Test.YtccmgoojdieloaaHx25
import Derived.Test.YtccmgoojdieloaaHB
import Derived.Test.YtccmgoojdieloaaHS
namespace Go.Proofs.Ytccmgoojdieloaa.Pure
open Go.RowKit Go.Proofs.Ytccmgoojdieloaa.H Go.Proofs.YtccmgoojdieloaaW.PrintWords Go.Proofs.YtccmgoojdieloaaW.PrintLast
set_option linter.unusedVariables false
set_option linter.unusedSimpArgs false

theorem isFloor_eq (s d : List Int) (h : hsB s d = true) (a : Int) : impl_House_isFloor.f s d a = some (decide (0 ≤ a ∧ a ≤ (s.length : Int))) := by
  have f := hsB_facts h
  simp only [impl_House_isFloor.f, within_eq, Option.bind_some]
  rw [wr (x := (d.length : Int) - 1) (by omega) (by omega), show (d.length : Int) - 1 = (s.length : Int) by omega]
theorem ldFloor_eq (s d : List Int) (hd : d.length ≤ 1048576) (k : Nat) (hk : 20 ≤ k) (a : Int) : spec_ldFloor.f k s d a = some (hsB s d && decide (0 ≤ a ∧ a ≤ (s.length : Int))) := by
  simp only [spec_ldFloor.f, ldGood_eq s d (by omega) k hk, in_eq, Option.bind_some]
  by_cases h : hsB s d = true <;> simp [h]
theorem val (s d : List Int) (a : Int) (hs : s.length ≤ 1048576) (hd : d.length ≤ 1048576) : ∃ r, ∀ k, 2000000 < k → spec_DoorsOfFloor.f k s d a = some r ∧ impl_DoorsOfFloor.f k s d a = some r := by
  by_cases h : hsB s d = true
  · by_cases ha : 0 ≤ a ∧ a ≤ (s.length : Int)
    · have f := hsB_facts h
      have hal : a < (d.length : Int) := by omega
      have hal2 : a ≤ (d.length : Int) := by omega
      by_cases z : rd d a = 0
      · refine ⟨(0, 0, false), fun k hk => ?_⟩
        simp [spec_DoorsOfFloor.f, impl_DoorsOfFloor.f, ldFloor_eq s d hd k (by omega), isHouse_eq s d (by omega), h, isFloor_eq s d h, ha, hal, z]
      · have sm := (small_d h).take a.toNat
        have b1 := sm.bd
        have b2 : 0 ≤ rd d a ∧ rd d a ≤ 20 := by
          obtain ⟨i, rfl⟩ := Int.eq_ofNat_of_zero_le ha.1
          rw [rd_nat d i (by omega)]
          exact f.2.2.2.2 _ (List.getElem_mem _)
        refine ⟨(isum (d.take a.toNat) + 1, isum (d.take a.toNat) + rd d a, true), fun k hk => ?_⟩
        have e1 : wrap64 (isum (d.take a.toNat) + 1) = isum (d.take a.toNat) + 1 := wr (by omega) (by omega)
        have e2 : wrap64 (isum (d.take a.toNat) + rd d a) = isum (d.take a.toNat) + rd d a := wr (by omega) (by omega)
        have e3 : wrap64 (isum (d.take a.toNat) + 1 + rd d a) = isum (d.take a.toNat) + 1 + rd d a := wr (by omega) (by omega)
        have e4 : wrap64 (isum (d.take a.toNat) + 1 + rd d a - 1) = isum (d.take a.toNat) + rd d a := by rw [wr (by omega) (by omega)]; omega
        simp [spec_DoorsOfFloor.f, impl_DoorsOfFloor.f, ldFloor_eq s d hd k (by omega), isHouse_eq s d (by omega), h, isFloor_eq s d h, ha, hal, hal2, z, sum_val _ sm k (by omega), ldSum_val _ sm k (by omega), e1, e2, e3, e4]
    · refine ⟨(0, 0, false), fun k hk => ?_⟩
      simp [spec_DoorsOfFloor.f, impl_DoorsOfFloor.f, ldFloor_eq s d hd k (by omega), isHouse_eq s d (by omega), h, isFloor_eq s d h, ha]
  · refine ⟨(0, 0, false), fun k hk => ?_⟩
    simp [spec_DoorsOfFloor.f, impl_DoorsOfFloor.f, ldFloor_eq s d hd k (by omega), isHouse_eq s d (by omega), h]
theorem FnExactDoorsOfFloor (l0_0 : List Int) (l0_1 : List Int) (a1 : Int) (m0_0 : l0_0.length ≤ maxLen) (w0_0 : ∀ x ∈ l0_0, (Lit.int .i64 x).wf = true) (m0_1 : l0_1.length ≤ maxLen) (w0_1 : ∀ x ∈ l0_1, (Lit.int .i64 x).wf = true) (w1 : (Lit.int .i64 a1).wf = true) : ∃ k, laws_FnExactDoorsOfFloor.f k l0_0 l0_1 a1 = some true := by
  rcases sz_val l0_0 l0_1 m0_0 m0_1 with ⟨hs, hd, n, e, hn⟩ | ⟨n, e, hn⟩
  · obtain ⟨r, h⟩ := val l0_0 l0_1 a1 (by omega) (by omega)
    have main : ∀ m : Nat, 2000001 ≤ m → laws_FnExactDoorsOfFloor.f (m + 1) l0_0 l0_1 a1 = some true := by
      intro m hm
      simp only [laws_FnExactDoorsOfFloor.f, laws_FnExactDoorsOfFloor.j0, e, Option.bind_some, if_neg hn, toHouse_val l0_0 l0_1 hs hd (m + 1) (by omega), toHouse_val l0_0 l0_1 hs hd m (by omega), (h (m + 1) (by omega)).1, (h (m + 1) (by omega)).2, eqHouse_val l0_0 l0_1 hs hd m (by omega)]
      simp
    exact ⟨2000001 + 1, main 2000001 (Nat.le_refl _)⟩
  · exact ⟨0, by simp only [laws_FnExactDoorsOfFloor.f, e, Option.bind_some, if_pos hn]⟩

end Go.Proofs.Ytccmgoojdieloaa.Pure
