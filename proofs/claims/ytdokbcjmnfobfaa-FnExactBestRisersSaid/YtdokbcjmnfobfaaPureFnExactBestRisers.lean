/- The plain law of FnExactBestRisers: what the reference's function tells, the program's function tells, for every input. No further condition. -/
import Derived.Test.YtdokbcjmnfobfaaPFnExactBestRisersx2
namespace Go.Proofs.Ytdokbcjmnfobfaa.Pure
open Go.RowKit Go.Proofs.Ytdokbcjmnfobfaa.PFnExactBestRisers Go.Proofs.YtdokbcjmnfobfaaW.PrintWords Go.Proofs.YtdokbcjmnfobfaaW.PrintLast
set_option linter.unusedVariables false
set_option linter.unusedSimpArgs false

theorem in_eq (a b c : Int) : spec_l1In.f a b c = some (decide (b ≤ a ∧ a ≤ c)) := by
  unfold spec_l1In.f
  by_cases h : a ≥ b
  · rw [if_pos h]
    simp [show b ≤ a from h]
  · rw [if_neg h]
    simp [show ¬ b ≤ a from h]
theorem within_eq (a b c : Int) : impl_within.f a b c = some (decide (b ≤ a ∧ a ≤ c)) := by
  unfold impl_within.f
  by_cases h : b ≤ a
  · rw [if_pos h]
    simp [h]
  · rw [if_neg h]
    simp [h]
theorem wr {x : Int} (h0 : -9223372036854775808 ≤ x) (h1 : x ≤ 9223372036854775807) : wrap64 x = x := by
  unfold wrap64
  omega
theorem most_eq (a b : Int) : spec_l1Most.f a b = some (mx a b) := by
  unfold spec_l1Most.f mx
  split <;> congr 1 <;> (try split) <;> omega
def R (h lo most : Int) : Nat → Int → List Int
  | 0, _ => []
  | d + 1, i => if Int.tmod h i = 0 ∧ lo ≤ wrap64 (Int.tdiv h i) ∧ wrap64 (Int.tdiv h i) ≤ most then i :: R h lo most d (i + 1) else R h lo most d (i + 1)
theorem R_yes {h lo most : Int} {d : Nat} {i : Int} (c : Int.tmod h i = 0 ∧ lo ≤ wrap64 (Int.tdiv h i) ∧ wrap64 (Int.tdiv h i) ≤ most) : R h lo most (d + 1) i = i :: R h lo most d (i + 1) := by
  simp only [R]
  rw [if_pos c]
theorem R_no {h lo most : Int} {d : Nat} {i : Int} (c : ¬ (Int.tmod h i = 0 ∧ lo ≤ wrap64 (Int.tdiv h i) ∧ wrap64 (Int.tdiv h i) ≤ most)) : R h lo most (d + 1) i = R h lo most d (i + 1) := by
  simp only [R]
  rw [if_neg c]
theorem R_length (h lo most : Int) (d : Nat) : ∀ i, (R h lo most d i).length ≤ d := by
  induction d with
  | zero => intro i; exact Nat.le_refl _
  | succ d ih =>
    intro i
    have := ih (i + 1)
    simp only [R]
    split
    · simp only [List.length_cons]; omega
    · omega
theorem R_mem (h lo most : Int) (d : Nat) : ∀ i n, n ∈ R h lo most d i → i ≤ n ∧ n < i + d ∧ Int.tmod h n = 0 ∧ lo ≤ wrap64 (Int.tdiv h n) ∧ wrap64 (Int.tdiv h n) ≤ most := by
  induction d with
  | zero => intro i n hn; simp [R] at hn
  | succ d ih =>
    intro i n hn
    simp only [R] at hn
    split at hn
    · rename_i c
      rcases List.mem_cons.mp hn with e | e
      · subst e; exact ⟨by omega, by omega, c⟩
      · have := ih _ _ e; exact ⟨by omega, by omega, this.2.2⟩
    · have := ih _ _ hn; exact ⟨by omega, by omega, this.2.2⟩
theorem impl_R (h lo most : Int) (d : Nat) : ∀ (k : Nat) (i : Int) (acc : List Int), 1 ≤ i → i + d = 101 → d < k → acc.length + d < 1000 → impl_WholeRisers.l0 k h lo most acc i = some (acc ++ R h lo most d i, true) := by
  induction d with
  | zero =>
    intro k i acc h1 h2 hk hl
    obtain ⟨k, rfl⟩ : ∃ m, k = m + 1 := ⟨k - 1, by omega⟩
    simp only [impl_WholeRisers.l0, R, List.append_nil]
    rw [if_neg (by omega)]
  | succ d ih =>
    intro k i acc h1 h2 hk hl
    obtain ⟨k, rfl⟩ : ∃ m, k = m + 1 := ⟨k - 1, by omega⟩
    have ew : wrap64 (i + 1) = i + 1 := wr (by omega) (by omega)
    simp only [impl_WholeRisers.l0, R, within_eq, Option.bind_some, ew]
    rw [if_pos (show i ≤ 100 by omega), if_neg (show ¬ i = 0 by omega)]
    by_cases c : Int.tmod h i = 0
    · by_cases g : lo ≤ wrap64 (Int.tdiv h i) ∧ wrap64 (Int.tdiv h i) ≤ most
      · rw [if_pos c, if_pos (decide_eq_true g), if_pos (by omega), if_pos ⟨c, g⟩, ih k (i + 1) _ (by omega) (by omega) (by omega) (by simp only [List.length_append, List.length_singleton]; omega)]
        simp
      · rw [if_pos c, if_neg (by simpa using g), if_neg (fun z => g z.2), ih k (i + 1) _ (by omega) (by omega) (by omega) (by omega)]
    · rw [if_neg c, if_neg (fun z => c z.1), ih k (i + 1) _ (by omega) (by omega) (by omega) (by omega)]
def wrB (h lo most : Int) : Bool := decide ((1 ≤ h ∧ h ≤ 6000) ∧ (1 ≤ lo ∧ lo ≤ 250) ∧ 1 ≤ most ∧ most ≤ 250)
theorem impl_WR (k : Nat) (hk : 200 ≤ k) (h lo most : Int) : impl_WholeRisers.f k h lo most = some (if wrB h lo most = true then (R h lo most 100 1, true) else ([], false)) := by
  obtain ⟨k, rfl⟩ : ∃ m, k = m + 1 := ⟨k - 1, by omega⟩
  simp only [impl_WholeRisers.f, impl_isHigh.f, within_eq, Option.bind_some, impl_WholeRisers.j0, wrB, decide_eq_true_eq]
  by_cases c1 : 1 ≤ h ∧ h ≤ 6000 <;> by_cases c2 : 1 ≤ lo ∧ lo ≤ 250 <;> by_cases c3 : 1 ≤ most ∧ most ≤ 250
  · simp only [c1, c2, c3, and_self, decide_true, if_true, Bool.not_true, Bool.false_eq_true, if_false]
    rw [impl_R h lo most 100 k 1 [] (by omega) (by omega) (by omega) (by simp)]
    rfl
  all_goals simp [c1, c2, c3]
theorem div_facts (h i : Int) (h1 : 1 ≤ h) (h2 : h ≤ 6000) (i1 : 1 ≤ i) (c : Int.tmod h i = 0) : 1 ≤ wrap64 (Int.tdiv h i) ∧ wrap64 (Int.tdiv h i) ≤ 6000 ∧ h = i * wrap64 (Int.tdiv h i) := by
  have e1 : Int.tmod h i = h % i := Int.tmod_eq_emod_of_nonneg (by omega)
  have e2 : Int.tdiv h i = h / i := Int.tdiv_eq_ediv_of_nonneg (by omega)
  have e3 := Int.mul_ediv_add_emod h i
  have e4 : 0 ≤ h / i := Int.ediv_nonneg (by omega) (by omega)
  have e5 : h / i ≤ h := Int.ediv_le_self _ (by omega)
  rw [e2, wr (by omega) (by omega)]
  rw [e1] at c
  rw [c, Int.add_zero] at e3
  refine ⟨?_, by omega, e3.symm⟩
  rcases (show h / i = 0 ∨ 1 ≤ h / i by omega) with z | z
  · rw [z, Int.mul_zero] at e3
    omega
  · exact z
def D (h s t n : Int) : Int := mx (wrap64 (wrap64 (wrap64 (2 * wrap64 (Int.tdiv h n)) + t) - s)) (wrap64 (-(wrap64 (wrap64 (wrap64 (2 * wrap64 (Int.tdiv h n)) + t) - s))))
def stp (h s t : Int) (p : Int × Int) (n : Int) : Int × Int := if p.1 = 0 then (n, D h s t n) else if D h s t n < p.2 then (n, D h s t n) else p
def res (p : Int × Int) : Int × Bool := if p.1 = 0 then (0, false) else (p.1, true)
theorem twice (h n : Int) (h1 : 1 ≤ h) (h2 : h ≤ 6000) (n1 : 1 ≤ n) (c : Int.tmod h n = 0) : wrap64 (Int.tdiv (wrap64 (2 * h)) n) = wrap64 (2 * wrap64 (Int.tdiv h n)) := by
  have f := div_facts h n h1 h2 n1 c
  have e : wrap64 (2 * h) = 2 * h := wr (by omega) (by omega)
  have e2 : Int.tdiv (2 * h) n = 2 * wrap64 (Int.tdiv h n) := by
    rw [Int.tdiv_eq_ediv_of_nonneg (by omega)]
    have : 2 * h = n * (2 * wrap64 (Int.tdiv h n)) := by
      rw [Int.mul_left_comm, ← f.2.2]
    rw [this, Int.mul_ediv_cancel_left _ (by omega)]
  rw [e, e2]
theorem stp_nn (h s t : Int) (l : List Int) : ∀ p : Int × Int, 0 ≤ p.1 → (∀ n ∈ l, 1 ≤ n) → 0 ≤ (l.foldl (stp h s t) p).1 := by
  induction l with
  | nil => intro p hp _; exact hp
  | cons n l ih =>
    intro p hp hl
    have h1 := hl n (by simp)
    refine ih _ ?_ (fun m hm => hl m (by simp [hm]))
    unfold stp
    split
    · show 0 ≤ n; omega
    · split
      · show 0 ≤ n; omega
      · exact hp
theorem spec_l (h s t : Int) (h1 : 1 ≤ h) (h2 : h ≤ 6000) (d : Nat) : ∀ (k : Nat) (b f i : Int), 1 ≤ i → i + d = 101 → 2 * d < k → spec_BestRisers.l0 k h s t b f i = some (res ((R h 1 250 d i).foldl (stp h s t) (b, f))) := by
  induction d with
  | zero =>
    intro k b f i hi hd hk
    obtain ⟨k, rfl⟩ : ∃ m, k = m + 1 := ⟨k - 1, by omega⟩
    simp only [spec_BestRisers.l0, R, List.foldl_nil, res]
    rw [if_neg (by omega)]
    by_cases z : b = 0 <;> simp [z]
  | succ d ih =>
    intro k b f i hi hd hk
    obtain ⟨k, rfl⟩ : ∃ m, k = m + 2 := ⟨k - 2, by omega⟩
    have ew : wrap64 (i + 1) = i + 1 := wr (by omega) (by omega)
    simp only [spec_BestRisers.l0, spec_BestRisers.j2, spec_l1Abs.f, most_eq, Option.bind_some, ew]
    rw [if_pos (show i ≤ 100 by omega), if_neg (show ¬ i = 0 by omega)]
    by_cases c : Int.tmod h i = 0
    · have fc := div_facts h i h1 h2 hi c
      rw [if_pos c]
      by_cases g : wrap64 (Int.tdiv h i) > 250
      · rw [if_pos (decide_eq_true g), R_no (fun z => by omega), ih k b f (i + 1) (by omega) (by omega) (by omega)]
      · rw [if_neg (by simpa using g), if_neg (show ¬ i = 0 by omega), R_yes ⟨c, fc.1, by omega⟩, List.foldl_cons]
        by_cases c8 : b = 0
        · rw [if_pos c8, ih k _ _ (i + 1) (by omega) (by omega) (by omega)]
          simp only [stp, c8, if_true, D]
        · rw [if_neg c8]
          by_cases cl : D h s t i < f
          · rw [if_pos (by unfold D at cl; exact cl), ih k _ _ (i + 1) (by omega) (by omega) (by omega)]
            simp only [stp, c8, if_false, cl, if_true]
            rfl
          · rw [if_neg (by unfold D at cl; exact cl), ih k _ _ (i + 1) (by omega) (by omega) (by omega)]
            simp only [stp, c8, if_false, cl]
    · rw [if_neg c, R_no (fun z => c z.1)]
      simp only [if_true]
      rw [ih k b f (i + 1) (by omega) (by omega) (by omega)]
theorem impl_l (h s t : Int) (h1 : 1 ≤ h) (h2 : h ≤ 6000) (l : List Int) (hl : ∀ n ∈ l, 1 ≤ n ∧ Int.tmod h n = 0) (hn : l.length ≤ 1000) (d : Nat) : ∀ (k : Nat) (b f : Int) (i : Nat), i + d = l.length → d < k → impl_BestRisers.l0 k h s t b f l (l.length : Int) (i : Int) = some (((l.drop i).foldl (stp h s t) (b, f)).1, decide (((l.drop i).foldl (stp h s t) (b, f)).1 > 0)) := by
  induction d with
  | zero =>
    intro k b f i hd hk
    obtain ⟨k, rfl⟩ : ∃ m, k = m + 1 := ⟨k - 1, by omega⟩
    simp only [impl_BestRisers.l0]
    rw [if_neg (by omega), List.drop_of_length_le (by omega)]
    rfl
  | succ d ih =>
    intro k b f i hd hk
    obtain ⟨k, rfl⟩ : ∃ m, k = m + 1 := ⟨k - 1, by omega⟩
    have ew : wrap64 ((i : Int) + 1) = ((i + 1 : Nat) : Int) := by rw [wr (by omega) (by omega)]; omega
    have hi : i < l.length := by omega
    have er : rd l (i : Int) = l[i] := by simp [rd, List.getD, hi]
    have hm := hl l[i] (List.getElem_mem hi)
    simp only [impl_BestRisers.l0, ew, er, twice h l[i] h1 h2 hm.1 hm.2]
    rw [if_pos (by omega), if_pos (by omega), if_pos (by omega), if_neg (by omega), List.drop_eq_getElem_cons hi, List.foldl_cons]
    by_cases c8 : b = 0
    · rw [if_pos c8, ih k _ _ (i + 1) (by omega) (by omega)]
      simp only [stp, c8, if_true, D]
    · rw [if_neg c8]
      by_cases cl : D h s t l[i] < f
      · rw [if_pos (by unfold D at cl; exact cl), ih k _ _ (i + 1) (by omega) (by omega)]
        simp only [stp, c8, if_false, cl, if_true]
        rfl
      · rw [if_neg (by unfold D at cl; exact cl), ih k _ _ (i + 1) (by omega) (by omega)]
        simp only [stp, c8, if_false, cl]
theorem val (k : Nat) (hk : 300 ≤ k) (h s t : Int) : ∃ r, spec_BestRisers.f k h s t = some r ∧ impl_BestRisers.f k h s t = some r := by
  simp only [spec_BestRisers.f, impl_BestRisers.f, impl_isSum.f, spec_riHigh.f, impl_WR k (by omega), in_eq, within_eq, Option.bind_some, wrB]
  obtain ⟨k, rfl⟩ : ∃ m, k = m + 1 := ⟨k - 1, by omega⟩
  simp only [spec_BestRisers.j0, impl_BestRisers.j0]
  by_cases c1 : 1 ≤ h ∧ h ≤ 6000
  · by_cases c2 : 1 ≤ s ∧ s ≤ 2000
    · by_cases c3 : 1 ≤ t ∧ t ≤ 500
      · have hm : ∀ n ∈ R h 1 250 100 1, 1 ≤ n ∧ Int.tmod h n = 0 := fun n hn => by
          have := R_mem h 1 250 100 1 n hn
          exact ⟨this.1, this.2.2.1⟩
        have hlen := R_length h 1 250 100 1
        have e1 := spec_l h s t c1.1 c1.2 100 k 0 0 1 (by omega) (by omega) (by omega)
        have e2 := impl_l h s t c1.1 c1.2 (R h 1 250 100 1) hm (by omega) (R h 1 250 100 1).length k 0 0 0 (by omega) (by omega)
        have nn := stp_nn h s t (R h 1 250 100 1) (0, 0) (by simp) (fun n hn => (hm n hn).1)
        simp only [List.drop_zero, Int.natCast_zero] at e2
        generalize (R h 1 250 100 1).foldl (stp h s t) (0, 0) = p at e1 e2 nn
        have a1 : ((1 : Int) ≤ 1 ∧ (1 : Int) ≤ 250) ∧ (1 : Int) ≤ 250 ∧ (250 : Int) ≤ 250 := by omega
        refine ⟨res p, ?_, ?_⟩
        · simp [c1, c2, c3, e1]
        · simp [c1, c2, c3]
          simp at e2
          rw [e2]
          unfold res
          by_cases z : p.1 = 0
          · simp [z]
          · simp [z]; omega
      · simp [c1, c2, c3]
    · simp [c1, c2]
  · simp [c1]
theorem FnExactBestRisers : laws_FnExactBestRisers.Pure := by
  intro a0 a1 a2 _ _ _
  obtain ⟨r, h1, h2⟩ := val 300 (Nat.le_refl _) a0 a1 a2
  exact ⟨300, by simp only [laws_FnExactBestRisers.f, h1, h2, Option.bind_some]; simp⟩

end Go.Proofs.Ytdokbcjmnfobfaa.Pure
