/- The plain law of FnExactAddFloor: what the reference's function tells, the program's function tells, for every input. No further condition. -/
import Derived.Test.YtccmgoojdieloaaGx23
import Derived.Test.YtccmgoojdieloaaGB
import Derived.Test.YtccmgoojdieloaaGM
namespace Go.Proofs.Ytccmgoojdieloaa.Pure
open Go.RowKit Go.Proofs.Ytccmgoojdieloaa.G Go.Proofs.YtccmgoojdieloaaW.PrintWords Go.Proofs.YtccmgoojdieloaaW.PrintLast
set_option linter.unusedVariables false
set_option linter.unusedSimpArgs false

theorem heldHouse_val (s d : List Int) (hs : s.length ≤ 1048576) (hd : d.length ≤ 1048576) (k : Nat) (hk : 2000000 < k) : laws_heldHouse.f k (markL s 1) (markL d (1 + (s.length : Int))) 1 = some (1 + (s.length : Int) + (d.length : Int)) := by
  simp only [laws_heldHouse.f, held_val s 1 (by omega) (by omega) (by omega) k hk, Option.bind_some]
  rw [if_neg (by omega), held_val d (1 + (s.length : Int)) (by omega) (by omega) (by omega) k hk]
  simp only [Option.bind_some]
  rw [if_neg (by omega)]
theorem own_eq (l : List Int) (hl : l.length ≤ 2000000) : spec_l1Own.f l = some l := by
  simp only [spec_l1Own.f, Option.bind_some, List.nil_append, List.length_nil]
  rw [if_pos (by omega)]
theorem clone_eq (l : List Int) (hl : l.length ≤ 2000000) : slices_Clone_int_int.f l = some l := by
  unfold slices_Clone_int_int.f
  rw [if_pos (by omega)]
theorem val (s d : List Int) (a c : Int) (hs : s.length ≤ 1048576) (hd : d.length ≤ 1048576) : ∃ (p q : List Int) (b : Bool), p.length ≤ 1048576 ∧ q.length ≤ 1048576 ∧ ∀ k, 2000000 < k → spec_AddFloor.f k s d a c = some (p, q, b) ∧ impl_AddFloor.f k s d a c = some (p, q, b) := by
  by_cases h : hsB s d = true ∧ ¬ (d.length : Int) = 12 ∧ (1 ≤ a ∧ a ≤ 40) ∧ 0 ≤ c ∧ c ≤ 20
  · obtain ⟨h, h2, h3, h4⟩ := h
    have f := hsB_facts h
    refine ⟨s ++ [a], d ++ [c], true, by rw [List.length_append, List.length_singleton]; omega, by rw [List.length_append, List.length_singleton]; omega, fun k hk => ?_⟩
    obtain ⟨k, rfl⟩ : ∃ m, k = m + 1 := ⟨k - 1, by omega⟩
    have b1 : s.length + ([a] : List Int).length < 17592186044416 := by simp only [List.length_singleton]; omega
    have b2 : d.length + ([c] : List Int).length < 17592186044416 := by simp only [List.length_singleton]; omega
    have cb : ((d.length : Int) == 12) = false := beq_eq_false_iff_ne.mpr h2
    constructor
    · simp only [spec_AddFloor.f, spec_AddFloor.j0, ldGood_eq s d (by omega) (k + 1) (by omega), in_eq, Option.bind_some, if_pos h, if_neg h2, h3, h4, and_self, decide_true, if_true, Bool.not_true, Bool.false_eq_true, if_false, own_eq s (by omega), own_eq d (by omega), if_pos b1, if_pos b2]
    · simp only [impl_AddFloor.f, impl_AddFloor.j0, isHouse_eq s d (by omega), within_eq, Option.bind_some, if_pos h, cb, h3, h4, and_self, decide_true, if_true, Bool.false_eq_true, if_false, clone_eq s (by omega), clone_eq d (by omega), if_pos b1, if_pos b2]
  · refine ⟨[], [], false, by simp, by simp, fun k hk => ?_⟩
    obtain ⟨k, rfl⟩ : ∃ m, k = m + 1 := ⟨k - 1, by omega⟩
    by_cases h1 : hsB s d = true
    · by_cases h2 : (d.length : Int) = 12
      · by_cases h3 : 1 ≤ a ∧ a ≤ 40 <;> by_cases h4 : 0 ≤ c ∧ c ≤ 20 <;> simp [spec_AddFloor.f, impl_AddFloor.f, spec_AddFloor.j0, impl_AddFloor.j0, ldGood_eq s d (by omega) (k + 1) (by omega), isHouse_eq s d (by omega), in_eq, within_eq, h1, h2, h3, h4]
      · by_cases h3 : 1 ≤ a ∧ a ≤ 40
        · have h4 : ¬ (0 ≤ c ∧ c ≤ 20) := fun z => h ⟨h1, h2, h3, z⟩
          simp [spec_AddFloor.f, impl_AddFloor.f, spec_AddFloor.j0, impl_AddFloor.j0, ldGood_eq s d (by omega) (k + 1) (by omega), isHouse_eq s d (by omega), in_eq, within_eq, h1, h2, h3, h4]
        · simp [spec_AddFloor.f, impl_AddFloor.f, spec_AddFloor.j0, impl_AddFloor.j0, ldGood_eq s d (by omega) (k + 1) (by omega), isHouse_eq s d (by omega), in_eq, within_eq, h1, h2, h3]
    · simp [spec_AddFloor.f, impl_AddFloor.f, spec_AddFloor.j0, impl_AddFloor.j0, ldGood_eq s d (by omega) (k + 1) (by omega), isHouse_eq s d (by omega), h1]
theorem FnExactAddFloor (l0_0 : List Int) (l0_1 : List Int) (a1 : Int) (a2 : Int) (m0_0 : l0_0.length ≤ maxLen) (w0_0 : ∀ x ∈ l0_0, (Lit.int .i64 x).wf = true) (m0_1 : l0_1.length ≤ maxLen) (w0_1 : ∀ x ∈ l0_1, (Lit.int .i64 x).wf = true) (w1 : (Lit.int .i64 a1).wf = true) (w2 : (Lit.int .i64 a2).wf = true) : ∃ k, laws_FnExactAddFloor.f k l0_0 l0_1 a1 a2 = some true := by
  rcases sz_val l0_0 l0_1 m0_0 m0_1 with ⟨hs, hd, n, e, hn⟩ | ⟨n, e, hn⟩
  · obtain ⟨p, q, b, hp, hq, h⟩ := val l0_0 l0_1 a1 a2 (by omega) (by omega)
    have main : ∀ m : Nat, 2000001 ≤ m → laws_FnExactAddFloor.f (m + 3) l0_0 l0_1 a1 a2 = some true := by
      intro m hm
      simp only [laws_FnExactAddFloor.f, laws_FnExactAddFloor.j0, laws_FnExactAddFloor.j1, laws_FnExactAddFloor.j2, e, Option.bind_some, if_neg hn, toHouse_val l0_0 l0_1 hs hd (m + 3) (by omega), toHouse_val l0_0 l0_1 hs hd (m + 2) (by omega), toHouse_val l0_0 l0_1 hs hd (m + 1) (by omega), (h (m + 3) (by omega)).1, (h (m + 3) (by omega)).2, (h (m + 1) (by omega)).2, eqHouse_val p q hp hq (m + 3) (by omega), eqHouse_val p q hp hq (m + 2) (by omega), eqHouse_val p q hp hq (m + 1) (by omega), eqHouse_val l0_0 l0_1 hs hd (m + 2) (by omega), markHouse_val l0_0 l0_1 hs hd (m + 2) (by omega), markHouse_val p q hp hq (m + 1) (by omega), heldHouse_val p q hp hq (m + 1) (by omega), heldHouse_val p q hp hq m (by omega), bne_self_eq_false, if_true, Bool.false_eq_true, if_false]
      rw [if_neg (by omega), if_neg (by omega), if_neg (by omega)]
    exact ⟨2000001 + 3, main 2000001 (Nat.le_refl _)⟩
  · exact ⟨0, by simp only [laws_FnExactAddFloor.f, e, Option.bind_some, if_pos hn]⟩

end Go.Proofs.Ytccmgoojdieloaa.Pure
