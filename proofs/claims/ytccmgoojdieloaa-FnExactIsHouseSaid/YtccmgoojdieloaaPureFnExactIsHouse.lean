/- The plain law of FnExactIsHouse: what the reference's function tells, the program's function tells, for every input. No further condition. -/
import Derived.Test.YtccmgoojdieloaaHx2
import Derived.Test.YtccmgoojdieloaaHB
namespace Go.Proofs.Ytccmgoojdieloaa.Pure
open Go.RowKit Go.Proofs.Ytccmgoojdieloaa.H Go.Proofs.YtccmgoojdieloaaW.PrintWords Go.Proofs.YtccmgoojdieloaaW.PrintLast
set_option linter.unusedVariables false
set_option linter.unusedSimpArgs false

theorem FnExactIsHouse (l0_0 : List Int) (l0_1 : List Int) (m0_0 : l0_0.length ≤ maxLen) (w0_0 : ∀ x ∈ l0_0, (Lit.int .i64 x).wf = true) (m0_1 : l0_1.length ≤ maxLen) (w0_1 : ∀ x ∈ l0_1, (Lit.int .i64 x).wf = true) : ∃ k, laws_FnExactIsHouse.f k l0_0 l0_1 = some true := by
  rcases sz_val l0_0 l0_1 m0_0 m0_1 with ⟨hs, hd, n, e, hn⟩ | ⟨n, e, hn⟩
  · refine ⟨2000001, ?_⟩
    simp only [laws_FnExactIsHouse.f, e, Option.bind_some, if_neg hn, toHouse_val l0_0 l0_1 hs hd 2000001 (by omega), spec_IsHouse.f, ldGood_eq l0_0 l0_1 (by omega) 2000001 (by omega), isHouse_eq l0_0 l0_1 (by omega), eqHouse_val l0_0 l0_1 hs hd 2000001 (by omega)]
    simp
  · exact ⟨0, by simp only [laws_FnExactIsHouse.f, e, Option.bind_some, if_pos hn]⟩

end Go.Proofs.Ytccmgoojdieloaa.Pure
