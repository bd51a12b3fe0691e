/- The plain law of FnExactFloorOfStep: what the reference's function tells, the program's function tells, for every input. No further condition. -/
import Derived.Test.YtccmgoojdieloaaHx34
import Derived.Test.YtccmgoojdieloaaHB
import Derived.Test.YtccmgoojdieloaaHS
namespace Go.Proofs.Ytccmgoojdieloaa.Pure
open Go.RowKit Go.Proofs.Ytccmgoojdieloaa.H Go.Proofs.YtccmgoojdieloaaW.PrintWords Go.Proofs.YtccmgoojdieloaaW.PrintLast
set_option linter.unusedVariables false
set_option linter.unusedSimpArgs false

def fls : List Int → Int → Nat → Nat × Int
  | [], st, i => (i, st)
  | x :: t, st, i => if st > x then fls t (st - x) (i + 1) else (i, st)
theorem fos_l (d l : List Int) (hl : Small l) (n : Nat) : ∀ (k i : Nat) (st : Int), i + n = l.length → n < k → 1 ≤ st → st ≤ isum (l.drop i) → impl_FloorOfStep.l0 k st (i : Int) l d = some (((fls (l.drop i) st i).1 : Int), (fls (l.drop i) st i).2, true) := by
  have h20 := hl.1
  induction n with
  | zero =>
    intro k i st hd hk h0 h1
    rw [List.drop_of_length_le (by omega)] at h1
    simp only [isum] at h1
    omega
  | succ n ih =>
    intro k i st hd hk h0 h1
    obtain ⟨k, rfl⟩ : ∃ m, k = m + 1 := ⟨k - 1, by omega⟩
    have hi : i < l.length := by omega
    have hb := hl.2 l[i] (List.getElem_mem hi)
    rw [List.drop_eq_getElem_cons hi] at h1 ⊢
    simp only [isum] at h1
    have ew : wrap64 ((i : Int) + 1) = ((i + 1 : Nat) : Int) := by rw [wr (by omega) (by omega)]; omega
    have es : wrap64 (st - l[i]) = st - l[i] := by
      have := (hl.drop (i + 1)).bd
      exact wr (by omega) (by omega)
    simp only [impl_FloorOfStep.l0, ew, rd_nat l i hi, es, fls]
    rw [if_pos (by omega), if_pos (by omega)]
    by_cases c : st > l[i]
    · rw [if_pos c, if_pos c, ih k (i + 1) _ (by omega) (by omega) (by omega) (by omega)]
    · rw [if_neg c, if_neg c]
theorem same_l : ∀ (k : Nat) (st i : Int) (s l : List Int), spec_FloorOfStep.l0 k st i s l = impl_FloorOfStep.l0 k st i s l := by
  intro k
  induction k with
  | zero => intros; rfl
  | succ k ih =>
    intro st i s l
    simp only [spec_FloorOfStep.l0, impl_FloorOfStep.l0, ih]
theorem val (s d : List Int) (a : Int) (hs : s.length ≤ 1048576) (hd : d.length ≤ 1048576) : ∃ r, ∀ k, 2000000 < k → spec_FloorOfStep.f k s d a = some r ∧ impl_FloorOfStep.f k s d a = some r := by
  by_cases h : hsB s d = true
  · have sm := small_s h
    have h20 := sm.1
    by_cases ha : 1 ≤ a ∧ a ≤ isum s
    · refine ⟨(((fls s a 0).1 : Int), (fls s a 0).2, true), fun k hk => ?_⟩
      obtain ⟨k, rfl⟩ : ∃ m, k = m + 1 := ⟨k - 1, by omega⟩
      have e := fos_l d s sm s.length k 0 a (by omega) (by omega) ha.1 (by simpa using ha.2)
      simp only [Int.natCast_zero, List.drop_zero] at e
      have e2 : impl_FloorOfStep.l0 k a 0 s d = some (((fls s a 0).1 : Int), (fls s a 0).2, true) := e
      simp [spec_FloorOfStep.f, impl_FloorOfStep.f, spec_FloorOfStep.j0, impl_FloorOfStep.j0, in_eq, within_eq, ldGood_eq s d (by omega) (k + 1) (by omega), isHouse_eq s d (by omega), h, ldSum_val s sm (k + 1) (by omega), sum_val s sm (k + 1) (by omega), ha, same_l, e2]
    · refine ⟨(0, 0, false), fun k hk => ?_⟩
      obtain ⟨k, rfl⟩ : ∃ m, k = m + 1 := ⟨k - 1, by omega⟩
      simp [spec_FloorOfStep.f, impl_FloorOfStep.f, spec_FloorOfStep.j0, impl_FloorOfStep.j0, in_eq, within_eq, ldGood_eq s d (by omega) (k + 1) (by omega), isHouse_eq s d (by omega), h, ldSum_val s sm (k + 1) (by omega), sum_val s sm (k + 1) (by omega), ha]
  · refine ⟨(0, 0, false), fun k hk => ?_⟩
    obtain ⟨k, rfl⟩ : ∃ m, k = m + 1 := ⟨k - 1, by omega⟩
    simp [spec_FloorOfStep.f, impl_FloorOfStep.f, spec_FloorOfStep.j0, impl_FloorOfStep.j0, ldGood_eq s d (by omega) (k + 1) (by omega), isHouse_eq s d (by omega), h]
theorem FnExactFloorOfStep (l0_0 : List Int) (l0_1 : List Int) (a1 : Int) (m0_0 : l0_0.length ≤ maxLen) (w0_0 : ∀ x ∈ l0_0, (Lit.int .i64 x).wf = true) (m0_1 : l0_1.length ≤ maxLen) (w0_1 : ∀ x ∈ l0_1, (Lit.int .i64 x).wf = true) (w1 : (Lit.int .i64 a1).wf = true) : ∃ k, laws_FnExactFloorOfStep.f k l0_0 l0_1 a1 = some true := by
  rcases sz_val l0_0 l0_1 m0_0 m0_1 with ⟨hs, hd, n, e, hn⟩ | ⟨n, e, hn⟩
  · obtain ⟨r, h⟩ := val l0_0 l0_1 a1 (by omega) (by omega)
    have main : ∀ m : Nat, 2000001 ≤ m → laws_FnExactFloorOfStep.f (m + 1) l0_0 l0_1 a1 = some true := by
      intro m hm
      simp only [laws_FnExactFloorOfStep.f, laws_FnExactFloorOfStep.j0, e, Option.bind_some, if_neg hn, toHouse_val l0_0 l0_1 hs hd (m + 1) (by omega), toHouse_val l0_0 l0_1 hs hd m (by omega), (h (m + 1) (by omega)).1, (h (m + 1) (by omega)).2, eqHouse_val l0_0 l0_1 hs hd m (by omega)]
      simp
    exact ⟨2000001 + 1, main 2000001 (Nat.le_refl _)⟩
  · exact ⟨0, by simp only [laws_FnExactFloorOfStep.f, e, Option.bind_some, if_pos hn]⟩

end Go.Proofs.Ytccmgoojdieloaa.Pure
