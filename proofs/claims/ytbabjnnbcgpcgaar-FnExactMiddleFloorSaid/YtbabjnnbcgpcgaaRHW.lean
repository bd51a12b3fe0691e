/- Plain lemmas on the functions of houses: what the printed functions of the program and of the reference tell, at every list that they are asked at here. No further condition. -/
import Derived.Test.YtbabjnnbcgpcgaaRHx31
import Derived.Test.YtbabjnnbcgpcgaaRHx8
import Derived.Test.YtbabjnnbcgpcgaaRHB
import Derived.Test.YtbabjnnbcgpcgaaRHS
namespace Go.Proofs.YtbabjnnbcgpcgaaR.Pure
open Go.RowKit Go.Proofs.YtbabjnnbcgpcgaaR.H Go.Proofs.YtbabjnnbcgpcgaaRW.PrintWords Go.Proofs.YtbabjnnbcgpcgaaRW.PrintLast Go.Proofs.YtbabjnnbcgpcgaaRW.PrintMore
set_option linter.unusedVariables false
set_option linter.unusedSimpArgs false

theorem isum_cut (l : List Int) (m M : Nat) (h : m ≤ M) : isum ((l.take M).drop m) = isum (l.take M) - isum (l.take m) := by
  have e := List.take_append_drop m (l.take M)
  have e2 : (l.take M).take m = l.take m := by rw [List.take_take, Nat.min_eq_left h]
  rw [e2] at e
  have := isum_append (l.take m) ((l.take M).drop m)
  rw [e] at this
  omega
theorem between_val (s d : List Int) (h : hsB s d = true) (a b : Int) (ha : 0 ≤ a ∧ a ≤ (s.length : Int)) (hb : 0 ≤ b ∧ b ≤ (s.length : Int)) (k : Nat) (hk : 21 ≤ k) :
    impl_House_between.f k s d a b = some (isum (s.take (mx a b).toNat) - isum (s.take (mn a b).toNat)) ∧ 0 ≤ isum (s.take (mx a b).toNat) - isum (s.take (mn a b).toNat) := by
  have hm : 0 ≤ mn a b ∧ mn a b ≤ mx a b ∧ mx a b ≤ (s.length : Int) := by
    unfold mn mx
    split <;> split <;> omega
  have hsm := ((small_s h).take (mx a b).toNat).drop (mn a b).toNat
  rw [← isum_cut s _ _ (by omega)]
  refine ⟨?_, hsm.bd.1⟩
  simp only [impl_House_between.f]
  rw [if_pos hm.1, if_pos hm.2.1, if_pos hm.2.2, sum_val _ hsm k hk]
  rfl
theorem ldTo_val (s d : List Int) (h : hsB s d = true) (a : Int) (ha : 0 ≤ a ∧ a ≤ (s.length : Int)) (k : Nat) (hk : 21 ≤ k) : spec_ldTo.f k s d a = some (isum (s.take a.toNat)) := by
  simp only [spec_ldTo.f]
  rw [if_pos ha.1, if_pos ha.2, ldSum_val _ ((small_s h).take _) k hk]
  rfl

end Go.Proofs.YtbabjnnbcgpcgaaR.Pure
