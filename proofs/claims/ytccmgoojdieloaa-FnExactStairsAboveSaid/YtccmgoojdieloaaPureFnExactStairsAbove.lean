/- The plain law of FnExactStairsAbove: what the reference's function tells, the program's function tells, for every input. No further condition. -/
import Derived.Test.YtccmgoojdieloaaHx62
import Derived.Test.YtccmgoojdieloaaHB
import Derived.Test.YtccmgoojdieloaaHM
namespace Go.Proofs.Ytccmgoojdieloaa.Pure
open Go.RowKit Go.Proofs.Ytccmgoojdieloaa.H Go.Proofs.YtccmgoojdieloaaW.PrintWords Go.Proofs.YtccmgoojdieloaaW.PrintLast
set_option linter.unusedVariables false
set_option linter.unusedSimpArgs false

def above (n : Int) : List Int → Nat → List Int
  | [], _ => []
  | x :: t, i => if x > n then (i : Int) :: above n t (i + 1) else above n t (i + 1)
theorem above_length (n : Int) (l : List Int) : ∀ i, (above n l i).length ≤ l.length := by
  induction l with
  | nil => intro i; simp [above]
  | cons x t ih =>
    intro i
    have := ih (i + 1)
    simp only [above]
    split
    · simp only [List.length_cons]; omega
    · simp only [List.length_cons]; omega
theorem impl_l (a : Int) (l : List Int) (hl : l.length ≤ 1000) (n : Nat) : ∀ (k i : Nat) (acc : List Int), i + n = l.length → n < k → acc.length ≤ i → impl_StairsAbove.l0 k a acc l (l.length : Int) (i : Int) = some (acc ++ above a (l.drop i) i, true) := by
  induction n with
  | zero =>
    intro k i acc hd hk ha
    obtain ⟨k, rfl⟩ : ∃ m, k = m + 1 := ⟨k - 1, by omega⟩
    simp only [impl_StairsAbove.l0]
    rw [if_neg (by omega), List.drop_of_length_le (by omega)]
    simp [above]
  | succ n ih =>
    intro k i acc hd hk ha
    obtain ⟨k, rfl⟩ : ∃ m, k = m + 1 := ⟨k - 1, by omega⟩
    have hi : i < l.length := by omega
    have ew : wrap64 ((i : Int) + 1) = ((i + 1 : Nat) : Int) := by rw [wr (by omega) (by omega)]; omega
    simp only [impl_StairsAbove.l0, ew, rd_nat l i hi]
    rw [if_pos (by omega), if_pos (by omega), if_pos (by omega), List.drop_eq_getElem_cons hi]
    simp only [above]
    by_cases c : l[i] > a
    · rw [if_pos c, if_pos c, if_pos (by omega), ih k (i + 1) _ (by omega) (by omega) (by simp only [List.length_append, List.length_singleton]; omega)]
      simp
    · rw [if_neg c, if_neg c, ih k (i + 1) _ (by omega) (by omega) (by omega)]
theorem same_l : ∀ (k : Nat) (a : Int) (acc l : List Int) (n i : Int), spec_StairsAbove.l0 k a acc l n i = impl_StairsAbove.l0 k a acc l n i := by
  intro k
  induction k with
  | zero => intros; rfl
  | succ k ih =>
    intro a acc l n i
    simp only [spec_StairsAbove.l0, impl_StairsAbove.l0, ih]
theorem val (s d : List Int) (a : Int) (hs : s.length ≤ 1048576) (hd : d.length ≤ 1048576) : ∃ (l : List Int) (b : Bool), l.length ≤ 2000000 ∧ ∀ k, 2000000 < k → spec_StairsAbove.f k s d a = some (l, b) ∧ impl_StairsAbove.f k s d a = some (l, b) := by
  by_cases h : hsB s d = true
  · by_cases ha : 0 ≤ a ∧ a ≤ 40
    · refine ⟨above a s 0, true, Nat.le_trans (above_length a s 0) (by omega), fun k hk => ?_⟩
      have f := hsB_facts h
      obtain ⟨k, rfl⟩ : ∃ m, k = m + 1 := ⟨k - 1, by omega⟩
      have e := impl_l a s (by omega) s.length k 0 [] (by omega) (by omega) (by simp)
      simp only [List.nil_append, Int.natCast_zero, List.drop_zero] at e
      have e2 : impl_StairsAbove.l0 k a [] s (s.length : Int) 0 = some (above a s 0, true) := e
      simp [spec_StairsAbove.f, impl_StairsAbove.f, spec_StairsAbove.j0, impl_StairsAbove.j0, in_eq, within_eq, ldGood_eq s d (by omega) (k + 1) (by omega), isHouse_eq s d (by omega), h, ha, same_l, e2]
    · refine ⟨[], false, by simp, fun k hk => ?_⟩
      obtain ⟨k, rfl⟩ : ∃ m, k = m + 1 := ⟨k - 1, by omega⟩
      simp [spec_StairsAbove.f, impl_StairsAbove.f, spec_StairsAbove.j0, impl_StairsAbove.j0, in_eq, within_eq, ldGood_eq s d (by omega) (k + 1) (by omega), isHouse_eq s d (by omega), h, ha]
  · refine ⟨[], false, by simp, fun k hk => ?_⟩
    obtain ⟨k, rfl⟩ : ∃ m, k = m + 1 := ⟨k - 1, by omega⟩
    simp [spec_StairsAbove.f, impl_StairsAbove.f, spec_StairsAbove.j0, impl_StairsAbove.j0, ldGood_eq s d (by omega) (k + 1) (by omega), isHouse_eq s d (by omega), h]
theorem FnExactStairsAbove (l0_0 : List Int) (l0_1 : List Int) (a1 : Int) (m0_0 : l0_0.length ≤ maxLen) (w0_0 : ∀ x ∈ l0_0, (Lit.int .i64 x).wf = true) (m0_1 : l0_1.length ≤ maxLen) (w0_1 : ∀ x ∈ l0_1, (Lit.int .i64 x).wf = true) (w1 : (Lit.int .i64 a1).wf = true) : ∃ k, laws_FnExactStairsAbove.f k l0_0 l0_1 a1 = some true := by
  rcases sz_val l0_0 l0_1 m0_0 m0_1 with ⟨hs, hd, n, e, hn⟩ | ⟨n, e, hn⟩
  · obtain ⟨l, b, hl, h⟩ := val l0_0 l0_1 a1 (by omega) (by omega)
    have main : ∀ m : Nat, 2000001 ≤ m → laws_FnExactStairsAbove.f (m + 3) l0_0 l0_1 a1 = some true := by
      intro m hm
      simp only [laws_FnExactStairsAbove.f, laws_FnExactStairsAbove.j0, laws_FnExactStairsAbove.j1, laws_FnExactStairsAbove.j2, e, Option.bind_some, if_neg hn, toHouse_val l0_0 l0_1 hs hd (m + 3) (by omega), toHouse_val l0_0 l0_1 hs hd (m + 2) (by omega), toHouse_val l0_0 l0_1 hs hd (m + 1) (by omega), (h (m + 3) (by omega)).1, (h (m + 3) (by omega)).2, (h (m + 1) (by omega)).2, eqI_val l hl (m + 3) (by omega), eqI_val l hl (m + 2) (by omega), eqI_val l hl (m + 1) (by omega), eqHouse_val l0_0 l0_1 hs hd (m + 2) (by omega), markHouse_val l0_0 l0_1 hs hd (m + 2) (by omega), mark_val l 1 (by omega) (by omega) hl (m + 1) (by omega), held_val l 1 (by omega) (by omega) hl (m + 1) (by omega), held_val l 1 (by omega) (by omega) hl m (by omega), bne_self_eq_false, if_true, Bool.false_eq_true, if_false]
      rw [if_neg (by omega), if_neg (by omega), if_neg (by omega)]
    exact ⟨2000001 + 3, main 2000001 (Nat.le_refl _)⟩
  · exact ⟨0, by simp only [laws_FnExactStairsAbove.f, e, Option.bind_some, if_pos hn]⟩

end Go.Proofs.Ytccmgoojdieloaa.Pure
