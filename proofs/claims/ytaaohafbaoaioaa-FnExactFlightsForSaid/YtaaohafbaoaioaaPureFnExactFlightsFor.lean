/- The plain law of FnExactFlightsFor: what the reference's function tells, the program's function tells, for every input. No further condition. -/
import Derived.Test.YtaaohafbaoaioaaPFnExactFlightsForx6
namespace Go.Proofs.Ytaaohafbaoaioaa.Pure
open Go.RowKit Go.Proofs.Ytaaohafbaoaioaa.PFnExactFlightsFor Go.Proofs.YtaaohafbaoaioaaW.PrintWords Go.Proofs.YtaaohafbaoaioaaW.PrintLast
set_option linter.unusedVariables false
set_option linter.unusedSimpArgs false

theorem in_eq (a b c : Int) : spec_l1In.f a b c = some (decide (b ≤ a ∧ a ≤ c)) := by
  unfold spec_l1In.f
  by_cases h : a ≥ b
  · rw [if_pos h]
    simp [show b ≤ a from h]
  · rw [if_neg h]
    simp [show ¬ b ≤ a from h]
theorem within_eq (a b c : Int) : impl_within.f a b c = some (decide (b ≤ a ∧ a ≤ c)) := by
  unfold impl_within.f
  by_cases h : b ≤ a
  · rw [if_pos h]
    simp [h]
  · rw [if_neg h]
    simp [h]
def flB (a b c : Int) : Bool := decide ((1 ≤ a ∧ a ≤ 100) ∧ (1 ≤ b ∧ b ≤ 250) ∧ 1 ≤ c ∧ c ≤ 500)
theorem riGood_eq (a b c : Int) : spec_riGood.f a b c = some (flB a b c) := by
  simp only [spec_riGood.f, in_eq, Option.bind_some, flB, decide_eq_true_eq]
  by_cases h1 : 1 ≤ a ∧ a ≤ 100 <;> by_cases h2 : 1 ≤ b ∧ b ≤ 250 <;> simp [h1, h2]
theorem isFlight_eq (a b c : Int) : impl_IsFlight.f a b c = some (flB a b c) := by
  simp only [impl_IsFlight.f, within_eq, Option.bind_some, flB, decide_eq_true_eq]
  by_cases h1 : 1 ≤ a ∧ a ≤ 100 <;> by_cases h2 : 1 ≤ b ∧ b ≤ 250 <;> simp [h1, h2]
theorem wr {x : Int} (h0 : -9223372036854775808 ≤ x) (h1 : x ≤ 9223372036854775807) : wrap64 x = x := by
  unfold wrap64
  omega
def R (h lo most : Int) : Nat → Int → List Int
  | 0, _ => []
  | d + 1, i => if Int.tmod h i = 0 ∧ lo ≤ wrap64 (Int.tdiv h i) ∧ wrap64 (Int.tdiv h i) ≤ most then i :: R h lo most d (i + 1) else R h lo most d (i + 1)
theorem R_yes {h lo most : Int} {d : Nat} {i : Int} (c : Int.tmod h i = 0 ∧ lo ≤ wrap64 (Int.tdiv h i) ∧ wrap64 (Int.tdiv h i) ≤ most) : R h lo most (d + 1) i = i :: R h lo most d (i + 1) := by
  simp only [R]
  rw [if_pos c]
theorem R_no {h lo most : Int} {d : Nat} {i : Int} (c : ¬ (Int.tmod h i = 0 ∧ lo ≤ wrap64 (Int.tdiv h i) ∧ wrap64 (Int.tdiv h i) ≤ most)) : R h lo most (d + 1) i = R h lo most d (i + 1) := by
  simp only [R]
  rw [if_neg c]
theorem R_length (h lo most : Int) (d : Nat) : ∀ i, (R h lo most d i).length ≤ d := by
  induction d with
  | zero => intro i; exact Nat.le_refl _
  | succ d ih =>
    intro i
    have := ih (i + 1)
    simp only [R]
    split
    · simp only [List.length_cons]; omega
    · omega
theorem R_mem (h lo most : Int) (d : Nat) : ∀ i n, n ∈ R h lo most d i → i ≤ n ∧ n < i + d ∧ Int.tmod h n = 0 ∧ lo ≤ wrap64 (Int.tdiv h n) ∧ wrap64 (Int.tdiv h n) ≤ most := by
  induction d with
  | zero => intro i n hn; simp [R] at hn
  | succ d ih =>
    intro i n hn
    simp only [R] at hn
    split at hn
    · rename_i c
      rcases List.mem_cons.mp hn with e | e
      · subst e; exact ⟨by omega, by omega, c⟩
      · have := ih _ _ e; exact ⟨by omega, by omega, this.2.2⟩
    · have := ih _ _ hn; exact ⟨by omega, by omega, this.2.2⟩
theorem impl_R (h lo most : Int) (d : Nat) : ∀ (k : Nat) (i : Int) (acc : List Int), 1 ≤ i → i + d = 101 → d < k → acc.length + d < 1000 → impl_WholeRisers.l0 k h lo most acc i = some (acc ++ R h lo most d i, true) := by
  induction d with
  | zero =>
    intro k i acc h1 h2 hk hl
    obtain ⟨k, rfl⟩ : ∃ m, k = m + 1 := ⟨k - 1, by omega⟩
    simp only [impl_WholeRisers.l0, R, List.append_nil]
    rw [if_neg (by omega)]
  | succ d ih =>
    intro k i acc h1 h2 hk hl
    obtain ⟨k, rfl⟩ : ∃ m, k = m + 1 := ⟨k - 1, by omega⟩
    have ew : wrap64 (i + 1) = i + 1 := wr (by omega) (by omega)
    simp only [impl_WholeRisers.l0, R, within_eq, Option.bind_some, ew]
    rw [if_pos (show i ≤ 100 by omega), if_neg (show ¬ i = 0 by omega)]
    by_cases c : Int.tmod h i = 0
    · by_cases g : lo ≤ wrap64 (Int.tdiv h i) ∧ wrap64 (Int.tdiv h i) ≤ most
      · rw [if_pos c, if_pos (decide_eq_true g), if_pos (by omega), if_pos ⟨c, g⟩, ih k (i + 1) _ (by omega) (by omega) (by omega) (by simp only [List.length_append, List.length_singleton]; omega)]
        simp
      · rw [if_pos c, if_neg (by simpa using g), if_neg (fun z => g z.2), ih k (i + 1) _ (by omega) (by omega) (by omega) (by omega)]
    · rw [if_neg c, if_neg (fun z => c z.1), ih k (i + 1) _ (by omega) (by omega) (by omega) (by omega)]
def wrB (h lo most : Int) : Bool := decide ((1 ≤ h ∧ h ≤ 6000) ∧ (1 ≤ lo ∧ lo ≤ 250) ∧ 1 ≤ most ∧ most ≤ 250)
theorem impl_WR (k : Nat) (hk : 200 ≤ k) (h lo most : Int) : impl_WholeRisers.f k h lo most = some (if wrB h lo most = true then (R h lo most 100 1, true) else ([], false)) := by
  obtain ⟨k, rfl⟩ : ∃ m, k = m + 1 := ⟨k - 1, by omega⟩
  simp only [impl_WholeRisers.f, impl_isHigh.f, within_eq, Option.bind_some, impl_WholeRisers.j0, wrB, decide_eq_true_eq]
  by_cases c1 : 1 ≤ h ∧ h ≤ 6000 <;> by_cases c2 : 1 ≤ lo ∧ lo ≤ 250 <;> by_cases c3 : 1 ≤ most ∧ most ≤ 250
  · simp only [c1, c2, c3, and_self, decide_true, if_true, Bool.not_true, Bool.false_eq_true, if_false]
    rw [impl_R h lo most 100 k 1 [] (by omega) (by omega) (by omega) (by simp)]
    rfl
  all_goals simp [c1, c2, c3]
theorem div_facts (h i : Int) (h1 : 1 ≤ h) (h2 : h ≤ 6000) (i1 : 1 ≤ i) (c : Int.tmod h i = 0) : 1 ≤ wrap64 (Int.tdiv h i) ∧ wrap64 (Int.tdiv h i) ≤ 6000 ∧ h = i * wrap64 (Int.tdiv h i) := by
  have e1 : Int.tmod h i = h % i := Int.tmod_eq_emod_of_nonneg (by omega)
  have e2 : Int.tdiv h i = h / i := Int.tdiv_eq_ediv_of_nonneg (by omega)
  have e3 := Int.mul_ediv_add_emod h i
  have e4 : 0 ≤ h / i := Int.ediv_nonneg (by omega) (by omega)
  have e5 : h / i ≤ h := Int.ediv_le_self _ (by omega)
  rw [e2, wr (by omega) (by omega)]
  rw [e1] at c
  rw [c, Int.add_zero] at e3
  refine ⟨?_, by omega, e3.symm⟩
  rcases (show h / i = 0 ∨ 1 ≤ h / i by omega) with z | z
  · rw [z, Int.mul_zero] at e3
    omega
  · exact z
def tr (h s n : Int) : Int := wrap64 (s - wrap64 (2 * wrap64 (Int.tdiv h n)))
def opt (h run s n : Int) : Option S38 := if flB n (wrap64 (Int.tdiv h n)) (tr h s n) = true ∧ wrap64 (wrap64 (n - 1) * tr h s n) ≤ run then some (⟨n, wrap64 (Int.tdiv h n), tr h s n⟩ : S38) else none
theorem opt_yes {h run s n : Int} (c1 : flB n (wrap64 (Int.tdiv h n)) (tr h s n) = true) (c2 : wrap64 (wrap64 (n - 1) * tr h s n) ≤ run) : opt h run s n = some (⟨n, wrap64 (Int.tdiv h n), tr h s n⟩ : S38) := by
  unfold opt
  rw [if_pos ⟨c1, c2⟩]
theorem opt_no {h run s n : Int} (c : ¬ (flB n (wrap64 (Int.tdiv h n)) (tr h s n) = true ∧ wrap64 (wrap64 (n - 1) * tr h s n) ≤ run)) : opt h run s n = none := by
  unfold opt
  rw [if_neg c]
theorem spec_l (h run s : Int) (h1 : 1 ≤ h) (h2 : h ≤ 6000) (d : Nat) : ∀ (k : Nat) (i : Int) (acc : List S38), 1 ≤ i → i + d = 101 → d < k → acc.length + d < 1000 → spec_FlightsFor.l0 k h run s acc i = some (acc ++ (R h 1 250 d i).filterMap (opt h run s), true) := by
  induction d with
  | zero =>
    intro k i acc hi hd hk hl
    obtain ⟨k, rfl⟩ : ∃ m, k = m + 1 := ⟨k - 1, by omega⟩
    simp only [spec_FlightsFor.l0, R, List.filterMap_nil, List.append_nil]
    rw [if_neg (by omega)]
  | succ d ih =>
    intro k i acc hi hd hk hl
    obtain ⟨k, rfl⟩ : ∃ m, k = m + 1 := ⟨k - 1, by omega⟩
    have ew : wrap64 (i + 1) = i + 1 := wr (by omega) (by omega)
    simp only [spec_FlightsFor.l0, riGood_eq, Option.bind_some, ew]
    rw [if_pos (show i ≤ 100 by omega), if_neg (show ¬ i = 0 by omega)]
    by_cases c : Int.tmod h i = 0
    · rw [if_pos c]
      have fc := div_facts h i h1 h2 hi c
      by_cases c1 : flB i (wrap64 (Int.tdiv h i)) (tr h s i) = true
      · have hb := of_decide_eq_true c1
        rw [if_pos (show flB i (wrap64 (Int.tdiv h i)) (wrap64 (s - wrap64 (2 * wrap64 (Int.tdiv h i)))) = true from c1), R_yes ⟨c, hb.2.1⟩]
        by_cases c2 : wrap64 (wrap64 (i - 1) * tr h s i) ≤ run
        · rw [if_pos (show wrap64 (wrap64 (i - 1) * wrap64 (s - wrap64 (2 * wrap64 (Int.tdiv h i)))) ≤ run from c2), if_pos (by omega), List.filterMap_cons_some (opt_yes c1 c2), ih k (i + 1) _ (by omega) (by omega) (by omega) (by simp only [List.length_append, List.length_singleton]; omega)]
          simp [tr]
        · rw [if_neg (show ¬ wrap64 (wrap64 (i - 1) * wrap64 (s - wrap64 (2 * wrap64 (Int.tdiv h i)))) ≤ run from c2), List.filterMap_cons_none (opt_no (fun z => c2 z.2)), ih k (i + 1) _ (by omega) (by omega) (by omega) (by omega)]
      · rw [if_neg (show ¬ flB i (wrap64 (Int.tdiv h i)) (wrap64 (s - wrap64 (2 * wrap64 (Int.tdiv h i)))) = true from c1), ih k (i + 1) _ (by omega) (by omega) (by omega) (by omega)]
        by_cases g : 1 ≤ wrap64 (Int.tdiv h i) ∧ wrap64 (Int.tdiv h i) ≤ 250
        · rw [R_yes ⟨c, g⟩, List.filterMap_cons_none (opt_no (fun z => c1 z.1))]
        · rw [R_no (fun z => g z.2)]
    · rw [if_neg c, R_no (fun z => c z.1), ih k (i + 1) _ (by omega) (by omega) (by omega) (by omega)]
theorem impl_l (h run s : Int) (l : List Int) (hl : ∀ n ∈ l, 1 ≤ n) (hn : l.length ≤ 1000) (d : Nat) : ∀ (k : Nat) (i : Nat) (acc : List S38), i + d = l.length → d < k → acc.length + d < 10000 → impl_FlightsFor.l0 k h run s acc l (l.length : Int) (i : Int) = some (acc ++ (l.drop i).filterMap (opt h run s), true) := by
  induction d with
  | zero =>
    intro k i acc hd hk ha
    obtain ⟨k, rfl⟩ : ∃ m, k = m + 1 := ⟨k - 1, by omega⟩
    simp only [impl_FlightsFor.l0]
    rw [if_neg (by omega), List.drop_of_length_le (by omega)]
    simp
  | succ d ih =>
    intro k i acc hd hk ha
    obtain ⟨k, rfl⟩ : ∃ m, k = m + 1 := ⟨k - 1, by omega⟩
    have ew : wrap64 ((i : Int) + 1) = ((i + 1 : Nat) : Int) := by rw [wr (by omega) (by omega)]; omega
    have hi : i < l.length := by omega
    have er : rd l (i : Int) = l[i] := by simp [rd, List.getD, hi]
    have hm := hl l[i] (List.getElem_mem hi)
    simp only [impl_FlightsFor.l0, impl_Flight_run.f, isFlight_eq, Option.bind_some, ew, er]
    rw [if_pos (by omega), if_pos (by omega), if_pos (by omega), if_neg (by omega), List.drop_eq_getElem_cons hi]
    by_cases c1 : flB l[i] (wrap64 (Int.tdiv h l[i])) (tr h s l[i]) = true
    · rw [if_pos (show flB l[i] (wrap64 (Int.tdiv h l[i])) (wrap64 (s - wrap64 (2 * wrap64 (Int.tdiv h l[i])))) = true from c1)]
      by_cases c2 : wrap64 (wrap64 (l[i] - 1) * tr h s l[i]) ≤ run
      · rw [if_pos (show wrap64 (wrap64 (l[i] - 1) * wrap64 (s - wrap64 (2 * wrap64 (Int.tdiv h l[i])))) ≤ run from c2), if_pos (by omega), List.filterMap_cons_some (opt_yes c1 c2), ih k (i + 1) _ (by omega) (by omega) (by simp only [List.length_append, List.length_singleton]; omega)]
        simp [tr]
      · rw [if_neg (show ¬ wrap64 (wrap64 (l[i] - 1) * wrap64 (s - wrap64 (2 * wrap64 (Int.tdiv h l[i])))) ≤ run from c2), List.filterMap_cons_none (opt_no (fun z => c2 z.2)), ih k (i + 1) _ (by omega) (by omega) (by omega)]
    · rw [if_neg (show ¬ flB l[i] (wrap64 (Int.tdiv h l[i])) (wrap64 (s - wrap64 (2 * wrap64 (Int.tdiv h l[i])))) = true from c1), List.filterMap_cons_none (opt_no (fun z => c1 z.1)), ih k (i + 1) _ (by omega) (by omega) (by omega)]
theorem val (h run s : Int) : ∃ (l : List S38) (b : Bool), l.length ≤ 4000000 ∧ ∀ k, 300 ≤ k → spec_FlightsFor.f k h run s = some (l, b) ∧ impl_FlightsFor.f k h run s = some (l, b) := by
  by_cases c1 : 1 ≤ h ∧ h ≤ 6000
  · by_cases c2 : 0 ≤ run ∧ run ≤ 50000
    · by_cases c3 : 1 ≤ s ∧ s ≤ 2000
      · have hlen := R_length h 1 250 100 1
        have hl2 := List.length_filterMap_le (opt h run s) (R h 1 250 100 1)
        refine ⟨(R h 1 250 100 1).filterMap (opt h run s), true, by omega, fun k hk => ?_⟩
        obtain ⟨k, rfl⟩ : ∃ m, k = m + 1 := ⟨k - 1, by omega⟩
        have e1 := spec_l h run s c1.1 c1.2 100 k 1 [] (by omega) (by omega) (by omega) (by simp)
        have e2 := impl_l h run s (R h 1 250 100 1) (fun n hn => (R_mem h 1 250 100 1 n hn).1) (by omega) (R h 1 250 100 1).length k 0 [] (by omega) (by omega) (by simp; omega)
        simp only [List.nil_append, List.drop_zero, Int.natCast_zero] at e1 e2
        constructor
        · simp only [spec_FlightsFor.f, spec_FlightsFor.j0, spec_riHigh.f, in_eq, Option.bind_some, c1, c2, c3, and_self, decide_true, if_true, Bool.not_true, Bool.false_eq_true, if_false, e1]
        · have a1 : wrB h 1 250 = true := by simp [wrB, c1]
          have e3 := impl_WR (k + 1) (by omega) h 1 250
          rw [if_pos a1] at e3
          try simp at e2
          simp [impl_FlightsFor.f, impl_FlightsFor.j0, impl_isSum.f, within_eq, c2, c3, e3, e2]
      · refine ⟨[], false, by simp, fun k hk => ?_⟩
        have a1 : wrB h 1 250 = true := by simp [wrB, c1]
        have e3 := impl_WR k (by omega) h 1 250
        rw [if_pos a1] at e3
        obtain ⟨k, rfl⟩ : ∃ m, k = m + 1 := ⟨k - 1, by omega⟩
        constructor
        · simp [spec_FlightsFor.f, spec_FlightsFor.j0, spec_riHigh.f, in_eq, c1, c2, c3]
        · simp [impl_FlightsFor.f, impl_FlightsFor.j0, impl_isSum.f, within_eq, c2, c3, e3]
    · refine ⟨[], false, by simp, fun k hk => ?_⟩
      have a1 : wrB h 1 250 = true := by simp [wrB, c1]
      have e3 := impl_WR k (by omega) h 1 250
      rw [if_pos a1] at e3
      obtain ⟨k, rfl⟩ : ∃ m, k = m + 1 := ⟨k - 1, by omega⟩
      constructor
      · simp [spec_FlightsFor.f, spec_FlightsFor.j0, spec_riHigh.f, in_eq, c1, c2]
      · simp [impl_FlightsFor.f, impl_FlightsFor.j0, impl_isSum.f, within_eq, c2, e3]
  · refine ⟨[], false, by simp, fun k hk => ?_⟩
    have a1 : ¬ wrB h 1 250 = true := by simp [wrB]; omega
    have e3 := impl_WR k (by omega) h 1 250
    rw [if_neg a1] at e3
    obtain ⟨k, rfl⟩ : ∃ m, k = m + 1 := ⟨k - 1, by omega⟩
    constructor
    · simp [spec_FlightsFor.f, spec_FlightsFor.j0, spec_riHigh.f, in_eq, c1]
    · simp [impl_FlightsFor.f, impl_FlightsFor.j0, impl_isSum.f, within_eq, e3]
theorem eq_l (l : List S38) (hl : l.length ≤ 4000000) (d : Nat) : ∀ (k : Nat) (i : Nat), i + d = l.length → d < k → laws_eqFlightS.l0 k l l (i : Int) = some true := by
  induction d with
  | zero =>
    intro k i hd hk
    obtain ⟨k, rfl⟩ : ∃ m, k = m + 1 := ⟨k - 1, by omega⟩
    simp only [laws_eqFlightS.l0]
    rw [if_neg (by omega)]
  | succ d ih =>
    intro k i hd hk
    obtain ⟨k, rfl⟩ : ∃ m, k = m + 1 := ⟨k - 1, by omega⟩
    have ew : wrap64 ((i : Int) + 1) = ((i + 1 : Nat) : Int) := by rw [wr (by omega) (by omega)]; omega
    simp only [laws_eqFlightS.l0, laws_eqFlight.f, if_true, Option.bind_some, ew]
    rw [if_pos (by omega), if_pos (by omega), if_pos (by omega), ih k (i + 1) (by omega) (by omega)]
theorem eq_val (k : Nat) (l : List S38) (hl : l.length ≤ 4000000) (hk : 4000000 < k) : laws_eqFlightS.f k l l = some true := by
  unfold laws_eqFlightS.f
  rw [if_pos rfl]
  exact eq_l l hl l.length k 0 (by omega) (by omega)
def markL : List S38 → Int → List S38
  | [], _ => []
  | _ :: t, c => (⟨c, c + 1, c + 2⟩ : S38) :: markL t (c + 3)
theorem markL_length (l : List S38) : ∀ c, (markL l c).length = l.length := by
  induction l with
  | nil => intro c; rfl
  | cons x t ih => intro c; simp only [markL, List.length_cons, ih]
theorem set_at (pre t : List S38) (x y : S38) : (pre ++ x :: t).set pre.length y = pre ++ y :: t := by
  rw [List.set_append_right _ _ (Nat.le_refl _), Nat.sub_self]
  rfl
theorem rd_at (pre t : List S38) (x : S38) : rd_T38 (pre ++ x :: t) (pre.length : Int) = x := by simp [rd_T38, List.getD]
theorem mark_l (l : List S38) : ∀ (k : Nat) (pre : List S38) (c : Int), 0 ≤ c → c + 3 * l.length ≤ 100000000 → pre.length + l.length ≤ 100000000 → l.length < k → laws_markFlightS.l0 k (pre ++ l) c (pre.length : Int) = some (c + 3 * (l.length : Int), pre ++ markL l c) := by
  induction l with
  | nil =>
    intro k pre c h0 h1 h2 hk
    obtain ⟨k, rfl⟩ : ∃ m, k = m + 1 := ⟨k - 1, by omega⟩
    simp only [laws_markFlightS.l0, markL, List.append_nil]
    rw [if_neg (by omega)]
    simp
  | cons x t ih =>
    intro k pre c h0 h1 h2 hk
    simp only [List.length_cons] at h1 h2 hk
    obtain ⟨k, rfl⟩ : ∃ m, k = m + 1 := ⟨k - 1, by omega⟩
    have ew : wrap64 ((pre.length : Int) + 1) = ((pre.length + 1 : Nat) : Int) := by rw [wr (by omega) (by omega)]; omega
    have ec : wrap64 (c + 1) = c + 1 := wr (by omega) (by omega)
    have ec2 : wrap64 (c + 1 + 1) = c + 2 := by rw [wr (by omega) (by omega)]; omega
    have ec3 : wrap64 (c + 2 + 1) = c + 3 := by rw [wr (by omega) (by omega)]; omega
    have el : (pre ++ [(⟨c, c + 1, c + 2⟩ : S38)]).length = pre.length + 1 := by simp
    have := ih k (pre ++ [(⟨c, c + 1, c + 2⟩ : S38)]) (c + 3) (by omega) (by omega) (by omega) (by omega)
    rw [el, List.append_assoc, List.singleton_append] at this
    simp only [laws_markFlightS.l0, ew, ec, ec2, ec3, Int.toNat_natCast, set_at, rd_at, Option.bind_some]
    rw [if_pos (by simp only [List.length_append, List.length_cons]; omega), if_pos (by omega), this]
    simp only [markL, List.length_cons, List.append_assoc, List.singleton_append]
    congr 2
    omega
theorem mark_val (k : Nat) (l : List S38) (hl : l.length ≤ 4000000) (hk : 4000000 < k) : laws_markFlightS.f k l 1 = some (1 + 3 * (l.length : Int), markL l 1) := by
  have := mark_l l k [] 1 (by omega) (by omega) (by simp; omega) (by omega)
  simpa [laws_markFlightS.f] using this
theorem held_l (l : List S38) : ∀ (k : Nat) (pre : List S38) (c : Int), 0 ≤ c → c + 3 * l.length ≤ 100000000 → pre.length + l.length ≤ 100000000 → l.length < k → laws_heldFlightS.l0 k (pre ++ markL l c) c (pre.length : Int) = some (c + 3 * (l.length : Int)) := by
  induction l with
  | nil =>
    intro k pre c h0 h1 h2 hk
    obtain ⟨k, rfl⟩ : ∃ m, k = m + 1 := ⟨k - 1, by omega⟩
    simp only [laws_heldFlightS.l0, markL, List.append_nil]
    rw [if_neg (by omega)]
    simp
  | cons x t ih =>
    intro k pre c h0 h1 h2 hk
    simp only [List.length_cons] at h1 h2 hk
    obtain ⟨k, rfl⟩ : ∃ m, k = m + 1 := ⟨k - 1, by omega⟩
    have ew : wrap64 ((pre.length : Int) + 1) = ((pre.length + 1 : Nat) : Int) := by rw [wr (by omega) (by omega)]; omega
    have ec : wrap64 (c + 1) = c + 1 := wr (by omega) (by omega)
    have ec2 : wrap64 (c + 1 + 1) = c + 2 := by rw [wr (by omega) (by omega)]; omega
    have ec3 : wrap64 (c + 2 + 1) = c + 3 := by rw [wr (by omega) (by omega)]; omega
    have el : (pre ++ [(⟨c, c + 1, c + 2⟩ : S38)]).length = pre.length + 1 := by simp
    have := ih k (pre ++ [(⟨c, c + 1, c + 2⟩ : S38)]) (c + 3) (by omega) (by omega) (by omega) (by omega)
    rw [el, List.append_assoc, List.singleton_append] at this
    simp only [laws_heldFlightS.l0, markL, ew, ec, ec2, ec3, rd_at]
    rw [if_pos (by simp only [List.length_append, markL_length, List.length_cons]; omega), if_pos (by omega), if_pos trivial, if_pos trivial, if_pos trivial, this]
    simp only [List.length_cons]
    congr 1
    omega
theorem held_val (k : Nat) (l : List S38) (hl : l.length ≤ 4000000) (hk : 4000000 < k) : laws_heldFlightS.f k (markL l 1) 1 = some (1 + 3 * (l.length : Int)) := by
  have := held_l l k [] 1 (by omega) (by omega) (by simp; omega) (by omega)
  simpa [laws_heldFlightS.f] using this
theorem FnExactFlightsFor : laws_FnExactFlightsFor.Pure := by
  intro a0 a1 a2 _ _ _
  obtain ⟨l, b, hl, hv⟩ := val a0 a1 a2
  have main : ∀ m : Nat, 4000001 ≤ m → laws_FnExactFlightsFor.f (m + 2) a0 a1 a2 = some true := by
    intro m hm
    simp only [laws_FnExactFlightsFor.f, laws_FnExactFlightsFor.j0, laws_FnExactFlightsFor.j1, (hv (m + 2) (by omega)).1, (hv (m + 2) (by omega)).2, (hv (m + 1) (by omega)).2, Option.bind_some, eq_val (m + 2) l hl (by omega), eq_val (m + 1) l hl (by omega), mark_val (m + 1) l hl (by omega), held_val (m + 1) l hl (by omega), held_val m l hl (by omega), bne_self_eq_false, if_true, Bool.false_eq_true, if_false]
    rw [if_neg (by omega), if_neg (by omega)]
  exact ⟨4000001 + 2, main 4000001 (Nat.le_refl _)⟩

end Go.Proofs.Ytaaohafbaoaioaa.Pure
