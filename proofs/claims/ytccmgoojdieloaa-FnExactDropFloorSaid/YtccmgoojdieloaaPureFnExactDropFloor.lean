/- The plain law of FnExactDropFloor: what the reference's function tells, the program's function tells, for every input. No further condition. -/
import Derived.Test.YtccmgoojdieloaaGx26
import Derived.Test.YtccmgoojdieloaaGB
import Derived.Test.YtccmgoojdieloaaGM
namespace Go.Proofs.Ytccmgoojdieloaa.Pure
open Go.RowKit Go.Proofs.Ytccmgoojdieloaa.G Go.Proofs.YtccmgoojdieloaaW.PrintWords Go.Proofs.YtccmgoojdieloaaW.PrintLast
set_option linter.unusedVariables false
set_option linter.unusedSimpArgs false

theorem heldHouse_val (s d : List Int) (hs : s.length ≤ 1048576) (hd : d.length ≤ 1048576) (k : Nat) (hk : 2000000 < k) : laws_heldHouse.f k (markL s 1) (markL d (1 + (s.length : Int))) 1 = some (1 + (s.length : Int) + (d.length : Int)) := by
  simp only [laws_heldHouse.f, held_val s 1 (by omega) (by omega) (by omega) k hk, Option.bind_some]
  rw [if_neg (by omega), held_val d (1 + (s.length : Int)) (by omega) (by omega) (by omega) k hk]
  simp only [Option.bind_some]
  rw [if_neg (by omega)]
theorem own_eq (l : List Int) (hl : l.length ≤ 2000000) : spec_l1Own.f l = some l := by
  simp only [spec_l1Own.f, Option.bind_some, List.nil_append, List.length_nil]
  rw [if_pos (by omega)]
theorem clone_eq (l : List Int) (hl : l.length ≤ 2000000) : slices_Clone_int_int.f l = some l := by
  unfold slices_Clone_int_int.f
  rw [if_pos (by omega)]
theorem val (s d : List Int) (hs : s.length ≤ 1048576) (hd : d.length ≤ 1048576) : ∃ (p q : List Int) (b : Bool), p.length ≤ 1048576 ∧ q.length ≤ 1048576 ∧ ∀ k, 2000000 < k → spec_DropFloor.f k s d = some (p, q, b) ∧ impl_DropFloor.f k s d = some (p, q, b) := by
  by_cases h : hsB s d = true
  · have f := hsB_facts h
    by_cases c : (s.length : Int) = 1
    · refine ⟨[], [], false, by simp, by simp, fun k hk => ?_⟩
      obtain ⟨k, rfl⟩ : ∃ m, k = m + 1 := ⟨k - 1, by omega⟩
      simp [spec_DropFloor.f, impl_DropFloor.f, spec_DropFloor.j0, impl_DropFloor.j0, ldGood_eq s d (by omega) (k + 1) (by omega), isHouse_eq s d (by omega), h, c]
    · have ew : wrap64 ((s.length : Int) - 1) = (s.length : Int) - 1 := wr (by omega) (by omega)
      have l1 : (s.take ((s.length : Int) - 1).toNat).length ≤ 2000000 := by rw [List.length_take]; omega
      have l2 : (d.take ((s.length : Int)).toNat).length ≤ 2000000 := by rw [List.length_take]; omega
      refine ⟨s.take ((s.length : Int) - 1).toNat, d.take ((s.length : Int)).toNat, true, by rw [List.length_take]; omega, by rw [List.length_take]; omega, fun k hk => ?_⟩
      obtain ⟨k, rfl⟩ : ∃ m, k = m + 1 := ⟨k - 1, by omega⟩
      have a1 : (0 : Int) ≤ (s.length : Int) - 1 := by omega
      have a2 : (s.length : Int) - 1 ≤ (s.length : Int) := by omega
      have a3 : (0 : Int) ≤ (s.length : Int) := by omega
      have a4 : (s.length : Int) ≤ (d.length : Int) := by omega
      have cb : ((s.length : Int) == 1) = false := beq_eq_false_iff_ne.mpr c
      constructor
      · simp only [spec_DropFloor.f, spec_DropFloor.j0, ldGood_eq s d (by omega) (k + 1) (by omega), Option.bind_some, if_pos h, cb, Bool.false_eq_true, if_false, ew, if_pos a1, if_pos a2, if_pos a3, if_pos a4, own_eq _ l1, own_eq _ l2]
      · simp only [impl_DropFloor.f, impl_DropFloor.j0, isHouse_eq s d (by omega), Option.bind_some, if_pos h, cb, Bool.false_eq_true, if_false, ew, if_pos a1, if_pos a2, if_pos a3, if_pos a4, clone_eq _ l1, clone_eq _ l2]
  · refine ⟨[], [], false, by simp, by simp, fun k hk => ?_⟩
    obtain ⟨k, rfl⟩ : ∃ m, k = m + 1 := ⟨k - 1, by omega⟩
    simp [spec_DropFloor.f, impl_DropFloor.f, spec_DropFloor.j0, impl_DropFloor.j0, ldGood_eq s d (by omega) (k + 1) (by omega), isHouse_eq s d (by omega), h]
theorem FnExactDropFloor (l0_0 : List Int) (l0_1 : List Int) (m0_0 : l0_0.length ≤ maxLen) (w0_0 : ∀ x ∈ l0_0, (Lit.int .i64 x).wf = true) (m0_1 : l0_1.length ≤ maxLen) (w0_1 : ∀ x ∈ l0_1, (Lit.int .i64 x).wf = true) : ∃ k, laws_FnExactDropFloor.f k l0_0 l0_1 = some true := by
  rcases sz_val l0_0 l0_1 m0_0 m0_1 with ⟨hs, hd, n, e, hn⟩ | ⟨n, e, hn⟩
  · obtain ⟨p, q, b, hp, hq, h⟩ := val l0_0 l0_1 (by omega) (by omega)
    have main : ∀ m : Nat, 2000001 ≤ m → laws_FnExactDropFloor.f (m + 3) l0_0 l0_1 = some true := by
      intro m hm
      simp only [laws_FnExactDropFloor.f, laws_FnExactDropFloor.j0, laws_FnExactDropFloor.j1, laws_FnExactDropFloor.j2, e, Option.bind_some, if_neg hn, toHouse_val l0_0 l0_1 hs hd (m + 3) (by omega), toHouse_val l0_0 l0_1 hs hd (m + 2) (by omega), toHouse_val l0_0 l0_1 hs hd (m + 1) (by omega), (h (m + 3) (by omega)).1, (h (m + 3) (by omega)).2, (h (m + 1) (by omega)).2, eqHouse_val p q hp hq (m + 3) (by omega), eqHouse_val p q hp hq (m + 2) (by omega), eqHouse_val p q hp hq (m + 1) (by omega), eqHouse_val l0_0 l0_1 hs hd (m + 2) (by omega), markHouse_val l0_0 l0_1 hs hd (m + 2) (by omega), markHouse_val p q hp hq (m + 1) (by omega), heldHouse_val p q hp hq (m + 1) (by omega), heldHouse_val p q hp hq m (by omega), bne_self_eq_false, if_true, Bool.false_eq_true, if_false]
      rw [if_neg (by omega), if_neg (by omega), if_neg (by omega)]
    exact ⟨2000001 + 3, main 2000001 (Nat.le_refl _)⟩
  · exact ⟨0, by simp only [laws_FnExactDropFloor.f, e, Option.bind_some, if_pos hn]⟩

end Go.Proofs.Ytccmgoojdieloaa.Pure
