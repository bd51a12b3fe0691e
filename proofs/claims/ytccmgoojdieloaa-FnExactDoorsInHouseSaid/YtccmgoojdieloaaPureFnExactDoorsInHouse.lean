/- The plain law of FnExactDoorsInHouse: what the reference's function tells, the program's function tells, for every input. No further condition. -/
import Derived.Test.YtccmgoojdieloaaHx3
import Derived.Test.YtccmgoojdieloaaHB
import Derived.Test.YtccmgoojdieloaaHS
namespace Go.Proofs.Ytccmgoojdieloaa.Pure
open Go.RowKit Go.Proofs.Ytccmgoojdieloaa.H Go.Proofs.YtccmgoojdieloaaW.PrintWords Go.Proofs.YtccmgoojdieloaaW.PrintLast
set_option linter.unusedVariables false
set_option linter.unusedSimpArgs false

theorem val (s d : List Int) (hs : s.length ≤ 1048576) (hd : d.length ≤ 1048576) : ∃ r, ∀ k, 2000000 < k → spec_DoorsInHouse.f k s d = some r ∧ impl_DoorsInHouse.f k s d = some r := by
  by_cases h : hsB s d = true
  · refine ⟨(isum d, true), fun k hk => ?_⟩
    simp only [spec_DoorsInHouse.f, impl_DoorsInHouse.f, ldGood_eq s d (by omega) k (by omega), isHouse_eq s d (by omega), Option.bind_some, if_pos h, ldSum_val d (small_d h) k (by omega), sum_val d (small_d h) k (by omega), and_self]
  · refine ⟨(0, false), fun k hk => ?_⟩
    simp only [spec_DoorsInHouse.f, impl_DoorsInHouse.f, ldGood_eq s d (by omega) k (by omega), isHouse_eq s d (by omega), Option.bind_some, if_neg h, and_self]
theorem FnExactDoorsInHouse (l0_0 : List Int) (l0_1 : List Int) (m0_0 : l0_0.length ≤ maxLen) (w0_0 : ∀ x ∈ l0_0, (Lit.int .i64 x).wf = true) (m0_1 : l0_1.length ≤ maxLen) (w0_1 : ∀ x ∈ l0_1, (Lit.int .i64 x).wf = true) : ∃ k, laws_FnExactDoorsInHouse.f k l0_0 l0_1 = some true := by
  rcases sz_val l0_0 l0_1 m0_0 m0_1 with ⟨hs, hd, n, e, hn⟩ | ⟨n, e, hn⟩
  · obtain ⟨r, h⟩ := val l0_0 l0_1 (by omega) (by omega)
    have main : ∀ m : Nat, 2000001 ≤ m → laws_FnExactDoorsInHouse.f (m + 1) l0_0 l0_1 = some true := by
      intro m hm
      simp only [laws_FnExactDoorsInHouse.f, laws_FnExactDoorsInHouse.j0, e, Option.bind_some, if_neg hn, toHouse_val l0_0 l0_1 hs hd (m + 1) (by omega), toHouse_val l0_0 l0_1 hs hd m (by omega), (h (m + 1) (by omega)).1, (h (m + 1) (by omega)).2, eqHouse_val l0_0 l0_1 hs hd m (by omega)]
      simp
    exact ⟨2000001 + 1, main 2000001 (Nat.le_refl _)⟩
  · exact ⟨0, by simp only [laws_FnExactDoorsInHouse.f, e, Option.bind_some, if_pos hn]⟩

end Go.Proofs.Ytccmgoojdieloaa.Pure
