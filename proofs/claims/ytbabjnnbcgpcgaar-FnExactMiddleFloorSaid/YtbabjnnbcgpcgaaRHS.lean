/- Plain lemmas on the functions of houses: what the printed functions of the program and of the reference tell, at every list that they are asked at here. No further condition. -/
import Derived.Test.YtbabjnnbcgpcgaaRHx30
import Derived.Test.YtbabjnnbcgpcgaaRHx7
import Derived.Test.YtbabjnnbcgpcgaaRHB
namespace Go.Proofs.YtbabjnnbcgpcgaaR.Pure
open Go.RowKit Go.Proofs.YtbabjnnbcgpcgaaR.H Go.Proofs.YtbabjnnbcgpcgaaRW.PrintWords Go.Proofs.YtbabjnnbcgpcgaaRW.PrintLast Go.Proofs.YtbabjnnbcgpcgaaRW.PrintMore
set_option linter.unusedVariables false
set_option linter.unusedSimpArgs false

theorem sum_l (l : List Int) (hl : Small l) (n : Nat) : ∀ (k i : Nat) (a : Int), i + n = l.length → n < k → 0 ≤ a → a ≤ 40 * i → impl_sum.l0 k a l (l.length : Int) (i : Int) = some (a + isum (l.drop i)) := by
  have h20 := hl.1
  induction n with
  | zero =>
    intro k i a hd hk h0 h1
    obtain ⟨k, rfl⟩ : ∃ m, k = m + 1 := ⟨k - 1, by omega⟩
    simp only [impl_sum.l0]
    rw [if_neg (by omega), List.drop_of_length_le (by omega)]
    simp [isum]
  | succ n ih =>
    intro k i a hd hk h0 h1
    obtain ⟨k, rfl⟩ : ∃ m, k = m + 1 := ⟨k - 1, by omega⟩
    have hi : i < l.length := by omega
    have hb := hl.2 l[i] (List.getElem_mem hi)
    have ew : wrap64 ((i : Int) + 1) = ((i + 1 : Nat) : Int) := by rw [wr (by omega) (by omega)]; omega
    have ea : wrap64 (a + l[i]) = a + l[i] := wr (by omega) (by omega)
    simp only [impl_sum.l0, ew, rd_nat l i hi, ea]
    rw [if_pos (by omega), if_pos (by omega), if_pos (by omega), ih k (i + 1) _ (by omega) (by omega) (by omega) (by omega), List.drop_eq_getElem_cons hi]
    simp only [isum]
    congr 1
    omega
theorem sum_val (l : List Int) (hl : Small l) (k : Nat) (hk : 21 ≤ k) : impl_sum.f k l = some (isum l) := by
  have h20 := hl.1
  have := sum_l l hl l.length k 0 0 (by omega) (by omega) (by omega) (by omega)
  simpa [impl_sum.f] using this
theorem ldSum_l (l : List Int) (hl : Small l) (n : Nat) : ∀ (k i : Nat) (a : Int), i + n = l.length → n < k → 0 ≤ a → a ≤ 40 * i → spec_ldSum.l0 k a l (l.length : Int) (i : Int) = some (a + isum (l.drop i)) := by
  have h20 := hl.1
  induction n with
  | zero =>
    intro k i a hd hk h0 h1
    obtain ⟨k, rfl⟩ : ∃ m, k = m + 1 := ⟨k - 1, by omega⟩
    simp only [spec_ldSum.l0]
    rw [if_neg (by omega), List.drop_of_length_le (by omega)]
    simp [isum]
  | succ n ih =>
    intro k i a hd hk h0 h1
    obtain ⟨k, rfl⟩ : ∃ m, k = m + 1 := ⟨k - 1, by omega⟩
    have hi : i < l.length := by omega
    have hb := hl.2 l[i] (List.getElem_mem hi)
    have ew : wrap64 ((i : Int) + 1) = ((i + 1 : Nat) : Int) := by rw [wr (by omega) (by omega)]; omega
    have ea : wrap64 (a + l[i]) = a + l[i] := wr (by omega) (by omega)
    simp only [spec_ldSum.l0, ew, rd_nat l i hi, ea]
    rw [if_pos (by omega), if_pos (by omega), if_pos (by omega), ih k (i + 1) _ (by omega) (by omega) (by omega) (by omega), List.drop_eq_getElem_cons hi]
    simp only [isum]
    congr 1
    omega
theorem ldSum_val (l : List Int) (hl : Small l) (k : Nat) (hk : 21 ≤ k) : spec_ldSum.f k l = some (isum l) := by
  have h20 := hl.1
  have := ldSum_l l hl l.length k 0 0 (by omega) (by omega) (by omega) (by omega)
  simpa [spec_ldSum.f] using this

end Go.Proofs.YtbabjnnbcgpcgaaR.Pure
