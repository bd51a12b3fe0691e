/- The plain law of FnExactWholeRisers: what the reference's function tells, the program's function tells, for every input. No further condition. -/
import Derived.Test.YtaaohafbaoaioaaPFnExactWholeRisersx2
namespace Go.Proofs.Ytaaohafbaoaioaa.Pure
open Go.RowKit Go.Proofs.Ytaaohafbaoaioaa.PFnExactWholeRisers Go.Proofs.YtaaohafbaoaioaaW.PrintWords Go.Proofs.YtaaohafbaoaioaaW.PrintLast
set_option linter.unusedVariables false
set_option linter.unusedSimpArgs false

theorem in_eq (a b c : Int) : spec_l1In.f a b c = some (decide (b ≤ a ∧ a ≤ c)) := by
  unfold spec_l1In.f
  by_cases h : a ≥ b
  · rw [if_pos h]
    simp [show b ≤ a from h]
  · rw [if_neg h]
    simp [show ¬ b ≤ a from h]
theorem within_eq (a b c : Int) : impl_within.f a b c = some (decide (b ≤ a ∧ a ≤ c)) := by
  unfold impl_within.f
  by_cases h : b ≤ a
  · rw [if_pos h]
    simp [h]
  · rw [if_neg h]
    simp [h]
theorem wr {x : Int} (h0 : -9223372036854775808 ≤ x) (h1 : x ≤ 9223372036854775807) : wrap64 x = x := by
  unfold wrap64
  omega
theorem eq_l (l : List Int) (hl : l.length ≤ 4000000) (d : Nat) : ∀ (k : Nat) (i : Nat), i + d = l.length → d < k → laws_eqIntS.l0 k l l (i : Int) = some true := by
  induction d with
  | zero =>
    intro k i hd hk
    obtain ⟨k, rfl⟩ : ∃ m, k = m + 1 := ⟨k - 1, by omega⟩
    simp only [laws_eqIntS.l0]
    rw [if_neg (by omega)]
  | succ d ih =>
    intro k i hd hk
    obtain ⟨k, rfl⟩ : ∃ m, k = m + 1 := ⟨k - 1, by omega⟩
    have ew : wrap64 ((i : Int) + 1) = ((i + 1 : Nat) : Int) := by rw [wr (by omega) (by omega)]; omega
    simp only [laws_eqIntS.l0, ew]
    rw [if_pos (by omega), if_pos (by omega), if_pos (by omega), if_pos trivial, ih k (i + 1) (by omega) (by omega)]
theorem eq_val (k : Nat) (l : List Int) (hl : l.length ≤ 4000000) (hk : 4000000 < k) : laws_eqIntS.f k l l = some true := by
  unfold laws_eqIntS.f
  rw [if_pos rfl]
  exact eq_l l hl l.length k 0 (by omega) (by omega)
def markL : List Int → Int → List Int
  | [], _ => []
  | _ :: t, c => c :: markL t (c + 1)
theorem markL_length (l : List Int) : ∀ c, (markL l c).length = l.length := by
  induction l with
  | nil => intro c; rfl
  | cons x t ih => intro c; simp only [markL, List.length_cons, ih]
theorem mark_l (l : List Int) : ∀ (k : Nat) (pre : List Int) (c : Int), 0 ≤ c → c + l.length ≤ 100000000 → pre.length + l.length ≤ 100000000 → l.length < k → laws_markIntS.l0 k (pre ++ l) c (pre.length : Int) = some (c + l.length, pre ++ markL l c) := by
  induction l with
  | nil =>
    intro k pre c h0 h1 h2 hk
    obtain ⟨k, rfl⟩ : ∃ m, k = m + 1 := ⟨k - 1, by omega⟩
    simp only [laws_markIntS.l0, markL, List.append_nil]
    rw [if_neg (by omega)]
    simp
  | cons x t ih =>
    intro k pre c h0 h1 h2 hk
    simp only [List.length_cons] at h1 h2 hk
    obtain ⟨k, rfl⟩ : ∃ m, k = m + 1 := ⟨k - 1, by omega⟩
    have ew : wrap64 ((pre.length : Int) + 1) = ((pre.length + 1 : Nat) : Int) := by rw [wr (by omega) (by omega)]; omega
    have ec : wrap64 (c + 1) = c + 1 := wr (by omega) (by omega)
    have es : (pre ++ x :: t).set ((pre.length : Int)).toNat c = (pre ++ [c]) ++ t := by
      rw [Int.toNat_natCast, List.set_append_right _ _ (Nat.le_refl _), Nat.sub_self]
      simp
    have el : (pre ++ [c]).length = pre.length + 1 := by simp
    have := ih k (pre ++ [c]) (c + 1) (by omega) (by omega) (by omega) (by omega)
    rw [el] at this
    simp only [laws_markIntS.l0, ew, ec, es]
    rw [if_pos (by simp only [List.length_append, List.length_cons]; omega), if_pos (by omega), this]
    simp only [markL, List.length_cons, List.append_assoc, List.singleton_append]
    congr 2
    omega
theorem mark_val (k : Nat) (l : List Int) (c : Int) (h0 : 0 ≤ c) (hc : c ≤ 20000000) (hl : l.length ≤ 4000000) (hk : 4000000 < k) : laws_markIntS.f k l c = some (c + l.length, markL l c) := by
  have := mark_l l k [] c h0 (by omega) (by simp; omega) (by omega)
  simpa [laws_markIntS.f] using this
theorem held_l (l : List Int) : ∀ (k : Nat) (pre : List Int) (c : Int), 0 ≤ c → c + l.length ≤ 100000000 → pre.length + l.length ≤ 100000000 → l.length < k → laws_heldIntS.l0 k (pre ++ markL l c) c (pre.length : Int) = some (c + l.length) := by
  induction l with
  | nil =>
    intro k pre c h0 h1 h2 hk
    obtain ⟨k, rfl⟩ : ∃ m, k = m + 1 := ⟨k - 1, by omega⟩
    simp only [laws_heldIntS.l0, markL, List.append_nil]
    rw [if_neg (by omega)]
    simp
  | cons x t ih =>
    intro k pre c h0 h1 h2 hk
    simp only [List.length_cons] at h1 h2 hk
    obtain ⟨k, rfl⟩ : ∃ m, k = m + 1 := ⟨k - 1, by omega⟩
    have ew : wrap64 ((pre.length : Int) + 1) = ((pre.length + 1 : Nat) : Int) := by rw [wr (by omega) (by omega)]; omega
    have ec : wrap64 (c + 1) = c + 1 := wr (by omega) (by omega)
    have el : (pre ++ [c]).length = pre.length + 1 := by simp
    have er : rd (pre ++ markL (x :: t) c) (pre.length : Int) = c := by simp [rd, List.getD, markL]
    have := ih k (pre ++ [c]) (c + 1) (by omega) (by omega) (by omega) (by omega)
    rw [el, List.append_assoc, List.singleton_append] at this
    simp only [laws_heldIntS.l0, ew, ec, er]
    rw [if_pos (by simp only [List.length_append, markL_length, List.length_cons]; omega), if_pos (by omega), if_pos trivial]
    simp only [markL]
    rw [this]
    simp only [List.length_cons]
    congr 1
    omega
theorem held_val (k : Nat) (l : List Int) (c : Int) (h0 : 0 ≤ c) (hc : c ≤ 20000000) (hl : l.length ≤ 4000000) (hk : 4000000 < k) : laws_heldIntS.f k (markL l c) c = some (c + l.length) := by
  have := held_l l k [] c h0 (by omega) (by simp; omega) (by omega)
  simpa [laws_heldIntS.f] using this
def R (h lo most : Int) : Nat → Int → List Int
  | 0, _ => []
  | d + 1, i => if Int.tmod h i = 0 ∧ lo ≤ wrap64 (Int.tdiv h i) ∧ wrap64 (Int.tdiv h i) ≤ most then i :: R h lo most d (i + 1) else R h lo most d (i + 1)
theorem R_yes {h lo most : Int} {d : Nat} {i : Int} (c : Int.tmod h i = 0 ∧ lo ≤ wrap64 (Int.tdiv h i) ∧ wrap64 (Int.tdiv h i) ≤ most) : R h lo most (d + 1) i = i :: R h lo most d (i + 1) := by
  simp only [R]
  rw [if_pos c]
theorem R_no {h lo most : Int} {d : Nat} {i : Int} (c : ¬ (Int.tmod h i = 0 ∧ lo ≤ wrap64 (Int.tdiv h i) ∧ wrap64 (Int.tdiv h i) ≤ most)) : R h lo most (d + 1) i = R h lo most d (i + 1) := by
  simp only [R]
  rw [if_neg c]
theorem R_length (h lo most : Int) (d : Nat) : ∀ i, (R h lo most d i).length ≤ d := by
  induction d with
  | zero => intro i; exact Nat.le_refl _
  | succ d ih =>
    intro i
    have := ih (i + 1)
    simp only [R]
    split
    · simp only [List.length_cons]; omega
    · omega
theorem R_mem (h lo most : Int) (d : Nat) : ∀ i n, n ∈ R h lo most d i → i ≤ n ∧ n < i + d ∧ Int.tmod h n = 0 ∧ lo ≤ wrap64 (Int.tdiv h n) ∧ wrap64 (Int.tdiv h n) ≤ most := by
  induction d with
  | zero => intro i n hn; simp [R] at hn
  | succ d ih =>
    intro i n hn
    simp only [R] at hn
    split at hn
    · rename_i c
      rcases List.mem_cons.mp hn with e | e
      · subst e; exact ⟨by omega, by omega, c⟩
      · have := ih _ _ e; exact ⟨by omega, by omega, this.2.2⟩
    · have := ih _ _ hn; exact ⟨by omega, by omega, this.2.2⟩
theorem impl_R (h lo most : Int) (d : Nat) : ∀ (k : Nat) (i : Int) (acc : List Int), 1 ≤ i → i + d = 101 → d < k → acc.length + d < 1000 → impl_WholeRisers.l0 k h lo most acc i = some (acc ++ R h lo most d i, true) := by
  induction d with
  | zero =>
    intro k i acc h1 h2 hk hl
    obtain ⟨k, rfl⟩ : ∃ m, k = m + 1 := ⟨k - 1, by omega⟩
    simp only [impl_WholeRisers.l0, R, List.append_nil]
    rw [if_neg (by omega)]
  | succ d ih =>
    intro k i acc h1 h2 hk hl
    obtain ⟨k, rfl⟩ : ∃ m, k = m + 1 := ⟨k - 1, by omega⟩
    have ew : wrap64 (i + 1) = i + 1 := wr (by omega) (by omega)
    simp only [impl_WholeRisers.l0, R, within_eq, Option.bind_some, ew]
    rw [if_pos (show i ≤ 100 by omega), if_neg (show ¬ i = 0 by omega)]
    by_cases c : Int.tmod h i = 0
    · by_cases g : lo ≤ wrap64 (Int.tdiv h i) ∧ wrap64 (Int.tdiv h i) ≤ most
      · rw [if_pos c, if_pos (decide_eq_true g), if_pos (by omega), if_pos ⟨c, g⟩, ih k (i + 1) _ (by omega) (by omega) (by omega) (by simp only [List.length_append, List.length_singleton]; omega)]
        simp
      · rw [if_pos c, if_neg (by simpa using g), if_neg (fun z => g z.2), ih k (i + 1) _ (by omega) (by omega) (by omega) (by omega)]
    · rw [if_neg c, if_neg (fun z => c z.1), ih k (i + 1) _ (by omega) (by omega) (by omega) (by omega)]
def wrB (h lo most : Int) : Bool := decide ((1 ≤ h ∧ h ≤ 6000) ∧ (1 ≤ lo ∧ lo ≤ 250) ∧ 1 ≤ most ∧ most ≤ 250)
theorem impl_WR (k : Nat) (hk : 200 ≤ k) (h lo most : Int) : impl_WholeRisers.f k h lo most = some (if wrB h lo most = true then (R h lo most 100 1, true) else ([], false)) := by
  obtain ⟨k, rfl⟩ : ∃ m, k = m + 1 := ⟨k - 1, by omega⟩
  simp only [impl_WholeRisers.f, impl_isHigh.f, within_eq, Option.bind_some, impl_WholeRisers.j0, wrB, decide_eq_true_eq]
  by_cases c1 : 1 ≤ h ∧ h ≤ 6000 <;> by_cases c2 : 1 ≤ lo ∧ lo ≤ 250 <;> by_cases c3 : 1 ≤ most ∧ most ≤ 250
  · simp only [c1, c2, c3, and_self, decide_true, if_true, Bool.not_true, Bool.false_eq_true, if_false]
    rw [impl_R h lo most 100 k 1 [] (by omega) (by omega) (by omega) (by simp)]
    rfl
  all_goals simp [c1, c2, c3]
theorem div_facts (h i : Int) (h1 : 1 ≤ h) (h2 : h ≤ 6000) (i1 : 1 ≤ i) (c : Int.tmod h i = 0) : 1 ≤ wrap64 (Int.tdiv h i) ∧ wrap64 (Int.tdiv h i) ≤ 6000 ∧ h = i * wrap64 (Int.tdiv h i) := by
  have e1 : Int.tmod h i = h % i := Int.tmod_eq_emod_of_nonneg (by omega)
  have e2 : Int.tdiv h i = h / i := Int.tdiv_eq_ediv_of_nonneg (by omega)
  have e3 := Int.mul_ediv_add_emod h i
  have e4 : 0 ≤ h / i := Int.ediv_nonneg (by omega) (by omega)
  have e5 : h / i ≤ h := Int.ediv_le_self _ (by omega)
  rw [e2, wr (by omega) (by omega)]
  rw [e1] at c
  rw [c, Int.add_zero] at e3
  refine ⟨?_, by omega, e3.symm⟩
  rcases (show h / i = 0 ∨ 1 ≤ h / i by omega) with z | z
  · rw [z, Int.mul_zero] at e3
    omega
  · exact z
theorem same_l : ∀ (k : Nat) (h lo most i : Int) (acc : List Int), spec_WholeRisers.l0 k h lo most acc i = impl_WholeRisers.l0 k h lo most acc i := by
  intro k
  induction k with
  | zero => intros; rfl
  | succ k ih =>
    intro h lo most i acc
    simp only [spec_WholeRisers.l0, impl_WholeRisers.l0, in_eq, within_eq, ih]
theorem same (k : Nat) (h lo most : Int) : spec_WholeRisers.f k h lo most = impl_WholeRisers.f k h lo most := by
  cases k with
  | zero => simp only [spec_WholeRisers.f, impl_WholeRisers.f, spec_riHigh.f, impl_isHigh.f, in_eq, within_eq, Option.bind_some, spec_WholeRisers.j0, impl_WholeRisers.j0]
  | succ k => simp only [spec_WholeRisers.f, impl_WholeRisers.f, spec_riHigh.f, impl_isHigh.f, in_eq, within_eq, Option.bind_some, spec_WholeRisers.j0, impl_WholeRisers.j0, same_l]
theorem val (h lo most : Int) : ∃ (l : List Int) (b : Bool), l.length ≤ 4000000 ∧ ∀ k, 200 ≤ k → impl_WholeRisers.f k h lo most = some (l, b) := by
  by_cases c : wrB h lo most = true
  · exact ⟨R h lo most 100 1, true, by have := R_length h lo most 100 1; omega, fun k hk => by rw [impl_WR k hk, if_pos c]⟩
  · exact ⟨[], false, by simp, fun k hk => by rw [impl_WR k hk, if_neg c]⟩
theorem FnExactWholeRisers : laws_FnExactWholeRisers.Pure := by
  intro a0 a1 a2 _ _ _
  obtain ⟨l, b, hl, hv⟩ := val a0 a1 a2
  have main : ∀ m : Nat, 4000001 ≤ m → laws_FnExactWholeRisers.f (m + 2) a0 a1 a2 = some true := by
    intro m hm
    simp only [laws_FnExactWholeRisers.f, laws_FnExactWholeRisers.j0, laws_FnExactWholeRisers.j1, same, hv (m + 2) (by omega), hv (m + 1) (by omega), Option.bind_some, eq_val (m + 2) l hl (by omega), eq_val (m + 1) l hl (by omega), mark_val (m + 1) l 1 (by omega) (by omega) hl (by omega), held_val (m + 1) l 1 (by omega) (by omega) hl (by omega), held_val m l 1 (by omega) (by omega) hl (by omega), bne_self_eq_false, if_true, Bool.false_eq_true, if_false]
    rw [if_neg (by omega), if_neg (by omega)]
  exact ⟨4000001 + 2, main 4000001 (Nat.le_refl _)⟩

end Go.Proofs.Ytaaohafbaoaioaa.Pure
