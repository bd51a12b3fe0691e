/- The plain law of FnExactEvenRisers: what the reference's function tells, the program's function tells, for every input. No further condition. -/
import Derived.Test.YtaaohafbaoaioaaPFnExactEvenRisersx2
namespace Go.Proofs.Ytaaohafbaoaioaa.Pure
open Go.RowKit Go.Proofs.Ytaaohafbaoaioaa.PFnExactEvenRisers Go.Proofs.YtaaohafbaoaioaaW.PrintWords Go.Proofs.YtaaohafbaoaioaaW.PrintLast
set_option linter.unusedVariables false
set_option linter.unusedSimpArgs false

theorem in_eq (a b c : Int) : spec_l1In.f a b c = some (decide (b ≤ a ∧ a ≤ c)) := by
  unfold spec_l1In.f
  by_cases h : a ≥ b
  · rw [if_pos h]
    simp [show b ≤ a from h]
  · rw [if_neg h]
    simp [show ¬ b ≤ a from h]
theorem within_eq (a b c : Int) : impl_within.f a b c = some (decide (b ≤ a ∧ a ≤ c)) := by
  unfold impl_within.f
  by_cases h : b ≤ a
  · rw [if_pos h]
    simp [h]
  · rw [if_neg h]
    simp [h]
theorem wr {x : Int} (h0 : -9223372036854775808 ≤ x) (h1 : x ≤ 9223372036854775807) : wrap64 x = x := by
  unfold wrap64
  omega
theorem eq_l (l : List Int) (hl : l.length ≤ 4000000) (d : Nat) : ∀ (k : Nat) (i : Nat), i + d = l.length → d < k → laws_eqIntS.l0 k l l (i : Int) = some true := by
  induction d with
  | zero =>
    intro k i hd hk
    obtain ⟨k, rfl⟩ : ∃ m, k = m + 1 := ⟨k - 1, by omega⟩
    simp only [laws_eqIntS.l0]
    rw [if_neg (by omega)]
  | succ d ih =>
    intro k i hd hk
    obtain ⟨k, rfl⟩ : ∃ m, k = m + 1 := ⟨k - 1, by omega⟩
    have ew : wrap64 ((i : Int) + 1) = ((i + 1 : Nat) : Int) := by rw [wr (by omega) (by omega)]; omega
    simp only [laws_eqIntS.l0, ew]
    rw [if_pos (by omega), if_pos (by omega), if_pos (by omega), if_pos trivial, ih k (i + 1) (by omega) (by omega)]
theorem eq_val (k : Nat) (l : List Int) (hl : l.length ≤ 4000000) (hk : 4000000 < k) : laws_eqIntS.f k l l = some true := by
  unfold laws_eqIntS.f
  rw [if_pos rfl]
  exact eq_l l hl l.length k 0 (by omega) (by omega)
def markL : List Int → Int → List Int
  | [], _ => []
  | _ :: t, c => c :: markL t (c + 1)
theorem markL_length (l : List Int) : ∀ c, (markL l c).length = l.length := by
  induction l with
  | nil => intro c; rfl
  | cons x t ih => intro c; simp only [markL, List.length_cons, ih]
theorem mark_l (l : List Int) : ∀ (k : Nat) (pre : List Int) (c : Int), 0 ≤ c → c + l.length ≤ 100000000 → pre.length + l.length ≤ 100000000 → l.length < k → laws_markIntS.l0 k (pre ++ l) c (pre.length : Int) = some (c + l.length, pre ++ markL l c) := by
  induction l with
  | nil =>
    intro k pre c h0 h1 h2 hk
    obtain ⟨k, rfl⟩ : ∃ m, k = m + 1 := ⟨k - 1, by omega⟩
    simp only [laws_markIntS.l0, markL, List.append_nil]
    rw [if_neg (by omega)]
    simp
  | cons x t ih =>
    intro k pre c h0 h1 h2 hk
    simp only [List.length_cons] at h1 h2 hk
    obtain ⟨k, rfl⟩ : ∃ m, k = m + 1 := ⟨k - 1, by omega⟩
    have ew : wrap64 ((pre.length : Int) + 1) = ((pre.length + 1 : Nat) : Int) := by rw [wr (by omega) (by omega)]; omega
    have ec : wrap64 (c + 1) = c + 1 := wr (by omega) (by omega)
    have es : (pre ++ x :: t).set ((pre.length : Int)).toNat c = (pre ++ [c]) ++ t := by
      rw [Int.toNat_natCast, List.set_append_right _ _ (Nat.le_refl _), Nat.sub_self]
      simp
    have el : (pre ++ [c]).length = pre.length + 1 := by simp
    have := ih k (pre ++ [c]) (c + 1) (by omega) (by omega) (by omega) (by omega)
    rw [el] at this
    simp only [laws_markIntS.l0, ew, ec, es]
    rw [if_pos (by simp only [List.length_append, List.length_cons]; omega), if_pos (by omega), this]
    simp only [markL, List.length_cons, List.append_assoc, List.singleton_append]
    congr 2
    omega
theorem mark_val (k : Nat) (l : List Int) (c : Int) (h0 : 0 ≤ c) (hc : c ≤ 20000000) (hl : l.length ≤ 4000000) (hk : 4000000 < k) : laws_markIntS.f k l c = some (c + l.length, markL l c) := by
  have := mark_l l k [] c h0 (by omega) (by simp; omega) (by omega)
  simpa [laws_markIntS.f] using this
theorem held_l (l : List Int) : ∀ (k : Nat) (pre : List Int) (c : Int), 0 ≤ c → c + l.length ≤ 100000000 → pre.length + l.length ≤ 100000000 → l.length < k → laws_heldIntS.l0 k (pre ++ markL l c) c (pre.length : Int) = some (c + l.length) := by
  induction l with
  | nil =>
    intro k pre c h0 h1 h2 hk
    obtain ⟨k, rfl⟩ : ∃ m, k = m + 1 := ⟨k - 1, by omega⟩
    simp only [laws_heldIntS.l0, markL, List.append_nil]
    rw [if_neg (by omega)]
    simp
  | cons x t ih =>
    intro k pre c h0 h1 h2 hk
    simp only [List.length_cons] at h1 h2 hk
    obtain ⟨k, rfl⟩ : ∃ m, k = m + 1 := ⟨k - 1, by omega⟩
    have ew : wrap64 ((pre.length : Int) + 1) = ((pre.length + 1 : Nat) : Int) := by rw [wr (by omega) (by omega)]; omega
    have ec : wrap64 (c + 1) = c + 1 := wr (by omega) (by omega)
    have el : (pre ++ [c]).length = pre.length + 1 := by simp
    have er : rd (pre ++ markL (x :: t) c) (pre.length : Int) = c := by simp [rd, List.getD, markL]
    have := ih k (pre ++ [c]) (c + 1) (by omega) (by omega) (by omega) (by omega)
    rw [el, List.append_assoc, List.singleton_append] at this
    simp only [laws_heldIntS.l0, ew, ec, er]
    rw [if_pos (by simp only [List.length_append, markL_length, List.length_cons]; omega), if_pos (by omega), if_pos trivial]
    simp only [markL]
    rw [this]
    simp only [List.length_cons]
    congr 1
    omega
theorem held_val (k : Nat) (l : List Int) (c : Int) (h0 : 0 ≤ c) (hc : c ≤ 20000000) (hl : l.length ≤ 4000000) (hk : 4000000 < k) : laws_heldIntS.f k (markL l c) c = some (c + l.length) := by
  have := held_l l k [] c h0 (by omega) (by simp; omega) (by omega)
  simpa [laws_heldIntS.f] using this
theorem least_eq (a b : Int) : spec_l1Least.f a b = some (mn a b) := by
  unfold spec_l1Least.f mn
  split <;> congr 1 <;> (try split) <;> omega
def ev (h r i : Int) : Int := wrap64 (wrap64 (Int.tdiv (wrap64 ((i + 1) * h)) r) - wrap64 (Int.tdiv (wrap64 (i * h)) r))
def E (h r : Int) : Nat → Int → List Int
  | 0, _ => []
  | d + 1, i => ev h r i :: E h r d (i + 1)
theorem E_length (h r : Int) (d : Nat) : ∀ i, (E h r d i).length = d := by
  induction d with
  | zero => intro i; rfl
  | succ d ih => intro i; simp only [E, List.length_cons, ih]
theorem impl_l (h r : Int) (hr : 1 ≤ r) (hr2 : r ≤ 1000) (d : Nat) : ∀ (k : Nat) (i : Int) (acc : List Int), 0 ≤ i → i + d = r → d < k → acc.length + d ≤ 10000 → impl_EvenRisers.l0 k h r acc r i = some (acc ++ E h r d i, true) := by
  induction d with
  | zero =>
    intro k i acc h1 h2 hk hl
    obtain ⟨k, rfl⟩ : ∃ m, k = m + 1 := ⟨k - 1, by omega⟩
    simp only [impl_EvenRisers.l0, E, List.append_nil]
    rw [if_neg (by omega)]
  | succ d ih =>
    intro k i acc h1 h2 hk hl
    obtain ⟨k, rfl⟩ : ∃ m, k = m + 1 := ⟨k - 1, by omega⟩
    have ew : wrap64 (i + 1) = i + 1 := wr (by omega) (by omega)
    simp only [impl_EvenRisers.l0, ew, E]
    rw [if_pos (by omega), if_neg (by omega), if_pos (by omega), ih k (i + 1) _ (by omega) (by omega) (by omega) (by simp only [List.length_append, List.length_singleton]; omega)]
    simp [ev]
theorem spec_l (h r : Int) (hr : 1 ≤ r) (hr2 : r ≤ 1000) (d : Nat) : ∀ (k : Nat) (i : Int) (acc : List Int), 0 ≤ i → i + d = r → d < k → acc.length + d ≤ 10000 → spec_EvenRisers.l0 k h r acc (i + 1) = some (acc ++ E h r d i, true) := by
  induction d with
  | zero =>
    intro k i acc h1 h2 hk hl
    obtain ⟨k, rfl⟩ : ∃ m, k = m + 1 := ⟨k - 1, by omega⟩
    simp only [spec_EvenRisers.l0, E, List.append_nil]
    rw [if_neg (by omega)]
  | succ d ih =>
    intro k i acc h1 h2 hk hl
    obtain ⟨k, rfl⟩ : ∃ m, k = m + 1 := ⟨k - 1, by omega⟩
    have ew : wrap64 (i + 1 + 1) = i + 1 + 1 := wr (by omega) (by omega)
    have ew2 : wrap64 (i + 1 - 1) = i := by rw [wr (by omega) (by omega)]; omega
    simp only [spec_EvenRisers.l0, ew, ew2, E]
    rw [if_pos (by omega), if_neg (by omega), if_pos (by omega), ih k (i + 1) _ (by omega) (by omega) (by omega) (by simp only [List.length_append, List.length_singleton]; omega)]
    simp [ev]
theorem val (h r : Int) : ∃ (l : List Int) (b : Bool), l.length ≤ 4000000 ∧ ∀ k, 200 ≤ k → spec_EvenRisers.f k h r = some (l, b) ∧ impl_EvenRisers.f k h r = some (l, b) := by
  by_cases c1 : 1 ≤ h ∧ h ≤ 6000
  · by_cases c2 : 1 ≤ r ∧ r ≤ mn 100 h
    · have hm : mn 100 h ≤ 100 := by unfold mn; split <;> omega
      refine ⟨E h r r.toNat 0, true, by rw [E_length]; omega, fun k hk => ?_⟩
      obtain ⟨k, rfl⟩ : ∃ m, k = m + 1 := ⟨k - 1, by omega⟩
      have e1 := spec_l h r c2.1 (by omega) r.toNat k 0 [] (by omega) (by omega) (by omega) (by simp; omega)
      have e2 := impl_l h r c2.1 (by omega) r.toNat k 0 [] (by omega) (by omega) (by omega) (by simp; omega)
      simp only [List.nil_append, Int.zero_add] at e1 e2
      constructor
      · simp only [spec_EvenRisers.f, spec_EvenRisers.j0, spec_riHigh.f, in_eq, least_eq, Option.bind_some, c1, c2, and_self, decide_true, if_true, Bool.not_true, Bool.false_eq_true, if_false, e1]
      · simp only [impl_EvenRisers.f, impl_EvenRisers.j0, impl_isHigh.f, within_eq, Option.bind_some, c1, c2, and_self, decide_true, if_true, Bool.not_true, Bool.false_eq_true, if_false, e2]
    · refine ⟨[], false, by simp, fun k hk => ?_⟩
      obtain ⟨k, rfl⟩ : ∃ m, k = m + 1 := ⟨k - 1, by omega⟩
      constructor
      · simp only [spec_EvenRisers.f, spec_EvenRisers.j0, spec_riHigh.f, in_eq, least_eq, Option.bind_some, c1, c2, and_self, decide_true, decide_false, if_true, Bool.not_false]
      · simp only [impl_EvenRisers.f, impl_EvenRisers.j0, impl_isHigh.f, within_eq, Option.bind_some, c1, c2, and_self, decide_true, decide_false, if_true, Bool.not_false]
  · refine ⟨[], false, by simp, fun k hk => ?_⟩
    obtain ⟨k, rfl⟩ : ∃ m, k = m + 1 := ⟨k - 1, by omega⟩
    constructor
    · simp [spec_EvenRisers.f, spec_EvenRisers.j0, spec_riHigh.f, in_eq, c1]
    · simp [impl_EvenRisers.f, impl_EvenRisers.j0, impl_isHigh.f, within_eq, c1]
theorem FnExactEvenRisers : laws_FnExactEvenRisers.Pure := by
  intro a0 a1 _ _
  obtain ⟨l, b, hl, hv⟩ := val a0 a1
  have main : ∀ m : Nat, 4000001 ≤ m → laws_FnExactEvenRisers.f (m + 2) a0 a1 = some true := by
    intro m hm
    simp only [laws_FnExactEvenRisers.f, laws_FnExactEvenRisers.j0, laws_FnExactEvenRisers.j1, (hv (m + 2) (by omega)).1, (hv (m + 2) (by omega)).2, (hv (m + 1) (by omega)).2, Option.bind_some, eq_val (m + 2) l hl (by omega), eq_val (m + 1) l hl (by omega), mark_val (m + 1) l 1 (by omega) (by omega) hl (by omega), held_val (m + 1) l 1 (by omega) (by omega) hl (by omega), held_val m l 1 (by omega) (by omega) hl (by omega), bne_self_eq_false, if_true, Bool.false_eq_true, if_false]
    rw [if_neg (by omega), if_neg (by omega)]
  exact ⟨4000001 + 2, main 4000001 (Nat.le_refl _)⟩

end Go.Proofs.Ytaaohafbaoaioaa.Pure
