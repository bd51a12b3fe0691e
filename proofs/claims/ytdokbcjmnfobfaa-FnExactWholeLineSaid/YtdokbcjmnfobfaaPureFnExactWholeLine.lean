/- The plain law of FnExactWholeLine: what the reference's function tells, the program's function tells, for every input. No further condition. -/
import Derived.Test.YtdokbcjmnfobfaaPFnExactWholeLinex1
namespace Go.Proofs.Ytdokbcjmnfobfaa.Pure
open Go.RowKit Go.Proofs.Ytdokbcjmnfobfaa.PFnExactWholeLine Go.Proofs.YtdokbcjmnfobfaaW.PrintWords Go.Proofs.YtdokbcjmnfobfaaW.PrintLast
set_option linter.unusedVariables false
set_option linter.unusedSimpArgs false

theorem in_eq (a b c : Int) : spec_l1In.f a b c = some (decide (b ≤ a ∧ a ≤ c)) := by
  unfold spec_l1In.f
  by_cases h : a ≥ b
  · rw [if_pos h]
    simp [show b ≤ a from h]
  · rw [if_neg h]
    simp [show ¬ b ≤ a from h]
theorem within_eq (a b c : Int) : impl_within.f a b c = some (decide (b ≤ a ∧ a ≤ c)) := by
  unfold impl_within.f
  by_cases h : b ≤ a
  · rw [if_pos h]
    simp [h]
  · rw [if_neg h]
    simp [h]
def flB (a b c : Int) : Bool := decide ((1 ≤ a ∧ a ≤ 100) ∧ (1 ≤ b ∧ b ≤ 250) ∧ 1 ≤ c ∧ c ≤ 500)
theorem riGood_eq (a b c : Int) : spec_riGood.f a b c = some (flB a b c) := by
  simp only [spec_riGood.f, in_eq, Option.bind_some, flB, decide_eq_true_eq]
  by_cases h1 : 1 ≤ a ∧ a ≤ 100 <;> by_cases h2 : 1 ≤ b ∧ b ≤ 250 <;> simp [h1, h2]
theorem isFlight_eq (a b c : Int) : impl_IsFlight.f a b c = some (flB a b c) := by
  simp only [impl_IsFlight.f, within_eq, Option.bind_some, flB, decide_eq_true_eq]
  by_cases h1 : 1 ≤ a ∧ a ≤ 100 <;> by_cases h2 : 1 ≤ b ∧ b ≤ 250 <;> simp [h1, h2]
theorem wr {x : Int} (h0 : -9223372036854775808 ≤ x) (h1 : x ≤ 9223372036854775807) : wrap64 x = x := by
  unfold wrap64
  omega
def Sq (n : Int) (p : Int × Bool) : Prop := (p.2 = true ∧ 0 ≤ p.1 ∧ p.1 * p.1 = n) ∨ (p = (0, false) ∧ ∀ r, 0 ≤ r → r * r ≠ n)
theorem sq_le {a b : Int} (ha : 0 ≤ a) (h : a ≤ b) : a * a ≤ b * b := Int.mul_le_mul h h ha (by omega)
theorem sq_lt {a b : Int} (ha : 0 ≤ a) (h : a < b) : a * a < b * b := by
  have h1 : (a + 1) * (a + 1) ≤ b * b := sq_le (by omega) (by omega)
  have h2 : (a + 1) * (a + 1) = a * a + 2 * a + 1 := by rw [Int.add_mul, Int.mul_add]; omega
  omega
theorem sq_unique {n : Int} {p q : Int × Bool} (hp : Sq n p) (hq : Sq n q) : p = q := by
  obtain ⟨a, x⟩ := p
  obtain ⟨b, y⟩ := q
  rcases hp with ⟨h1, h2, h3⟩ | ⟨h1, h2⟩ <;> rcases hq with ⟨g1, g2, g3⟩ | ⟨g1, g2⟩
  · simp only at h1 h2 h3 g1 g2 g3
    have : a = b := by
      rcases Int.lt_trichotomy a b with h | h | h
      · have := sq_lt h2 h
        omega
      · exact h
      · have := sq_lt g2 h
        omega
    rw [this, h1, g1]
  · exact absurd h3 (g2 _ h2)
  · exact absurd g3 (h2 _ g2)
  · rw [h1, g1]
theorem spec_l (n : Int) (d : Nat) : ∀ (k : Nat) (lo hi : Int), 0 ≤ lo → lo ≤ hi → hi ≤ 100000 → lo * lo ≤ n → n < (hi + 1) * (hi + 1) → hi - lo ≤ d → d < k → ∃ p, spec_WholeLine.l0 k n lo hi = some p ∧ Sq n p := by
  induction d with
  | zero =>
    intro k lo hi h0 h1 h2 h3 h4 hd hk
    obtain ⟨k, rfl⟩ : ∃ m, k = m + 1 := ⟨k - 1, by omega⟩
    obtain rfl : hi = lo := by omega
    have hb : hi * hi ≤ 100000 * 100000 := sq_le h0 h2
    have hb0 : 0 ≤ hi * hi := Int.mul_nonneg h0 h0
    simp only [spec_WholeLine.l0]
    rw [if_neg (by omega), wr (by omega) (by omega)]
    by_cases e : hi * hi = n
    · rw [if_pos e]
      exact ⟨_, rfl, .inl ⟨rfl, h0, e⟩⟩
    · rw [if_neg e]
      refine ⟨_, rfl, .inr ⟨rfl, fun r hr => ?_⟩⟩
      rcases (show hi < r ∨ r ≤ hi by omega) with h | h
      · have := sq_le (show 0 ≤ hi + 1 by omega) (show hi + 1 ≤ r by omega)
        omega
      · have := sq_le hr h
        omega
  | succ d ih =>
    intro k lo hi h0 h1 h2 h3 h4 hd hk
    by_cases hlt : lo < hi
    · obtain ⟨k, rfl⟩ : ∃ m, k = m + 1 := ⟨k - 1, by omega⟩
      have e1 : wrap64 (lo + hi) = lo + hi := wr (by omega) (by omega)
      have e2 : wrap64 (lo + hi + 1) = lo + hi + 1 := wr (by omega) (by omega)
      have e3 : Int.tdiv (lo + hi + 1) 2 = (lo + hi + 1) / 2 := Int.tdiv_eq_ediv_of_nonneg (by omega)
      have e4 : wrap64 ((lo + hi + 1) / 2) = (lo + hi + 1) / 2 := wr (by omega) (by omega)
      simp only [spec_WholeLine.l0, e1, e2, e3, e4]
      have hm1 : lo < (lo + hi + 1) / 2 := by omega
      have hm2 : (lo + hi + 1) / 2 ≤ hi := by omega
      generalize (lo + hi + 1) / 2 = m at hm1 hm2
      have hb : m * m ≤ 100000 * 100000 := sq_le (by omega) (by omega)
      have hb0 : 0 ≤ m * m := Int.mul_nonneg (by omega) (by omega)
      rw [if_pos hlt, wr (by omega) (by omega), wr (x := m - 1) (by omega) (by omega)]
      by_cases c : m * m ≤ n
      · rw [if_pos c]
        exact ih k m hi (by omega) hm2 h2 c h4 (by omega) (by omega)
      · rw [if_neg c]
        exact ih k lo (m - 1) h0 (by omega) (by omega) h3 (by rw [show m - 1 + 1 = m by omega]; omega) (by omega) (by omega)
    · exact (by
        obtain rfl : hi = lo := by omega
        obtain ⟨k, rfl⟩ : ∃ m, k = m + 1 := ⟨k - 1, by omega⟩
        have hb : hi * hi ≤ 100000 * 100000 := sq_le h0 h2
        have hb0 : 0 ≤ hi * hi := Int.mul_nonneg h0 h0
        simp only [spec_WholeLine.l0]
        rw [if_neg (by omega), wr (by omega) (by omega)]
        by_cases e : hi * hi = n
        · rw [if_pos e]
          exact ⟨_, rfl, .inl ⟨rfl, h0, e⟩⟩
        · rw [if_neg e]
          refine ⟨_, rfl, .inr ⟨rfl, fun r hr => ?_⟩⟩
          rcases (show hi < r ∨ r ≤ hi by omega) with h | h
          · have := sq_le (show 0 ≤ hi + 1 by omega) (show hi + 1 ≤ r by omega)
            omega
          · have := sq_le hr h
            omega)
theorem impl_end (n lo : Int) (k : Nat) (h0 : 0 ≤ lo) (h2 : lo ≤ 100000) (h3 : ∀ r, 0 ≤ r → r < lo → r * r < n) (h4 : n ≤ lo * lo) : ∃ p, impl_WholeLine.l0 (k + 1) n lo lo = some p ∧ Sq n p := by
  have hb : lo * lo ≤ 100000 * 100000 := sq_le h0 h2
  have hb0 : 0 ≤ lo * lo := Int.mul_nonneg h0 h0
  simp only [impl_WholeLine.l0]
  rw [if_neg (by omega), wr (by omega) (by omega)]
  by_cases e : lo * lo = n
  · rw [if_pos e]
    exact ⟨_, rfl, .inl ⟨rfl, h0, e⟩⟩
  · rw [if_neg e]
    refine ⟨_, rfl, .inr ⟨rfl, fun r hr => ?_⟩⟩
    rcases (show r < lo ∨ lo ≤ r by omega) with h | h
    · have := h3 r hr h
      omega
    · have := sq_le h0 h
      omega
theorem impl_l (n : Int) (d : Nat) : ∀ (k : Nat) (lo hi : Int), 0 ≤ lo → lo ≤ hi → hi ≤ 100000 → (∀ r, 0 ≤ r → r < lo → r * r < n) → n ≤ hi * hi → hi - lo ≤ d → d < k → ∃ p, impl_WholeLine.l0 k n lo hi = some p ∧ Sq n p := by
  induction d with
  | zero =>
    intro k lo hi h0 h1 h2 h3 h4 hd hk
    obtain ⟨k, rfl⟩ : ∃ m, k = m + 1 := ⟨k - 1, by omega⟩
    obtain rfl : hi = lo := by omega
    exact impl_end n hi k h0 h2 h3 h4
  | succ d ih =>
    intro k lo hi h0 h1 h2 h3 h4 hd hk
    obtain ⟨k, rfl⟩ : ∃ m, k = m + 1 := ⟨k - 1, by omega⟩
    by_cases hlt : lo < hi
    · have e1 : wrap64 (lo + hi) = lo + hi := wr (by omega) (by omega)
      have e3 : Int.tdiv (lo + hi) 2 = (lo + hi) / 2 := Int.tdiv_eq_ediv_of_nonneg (by omega)
      have e4 : wrap64 ((lo + hi) / 2) = (lo + hi) / 2 := wr (by omega) (by omega)
      simp only [impl_WholeLine.l0, e1, e3, e4]
      have hm1 : lo ≤ (lo + hi) / 2 := by omega
      have hm2 : (lo + hi) / 2 < hi := by omega
      generalize (lo + hi) / 2 = m at hm1 hm2
      have hb : m * m ≤ 100000 * 100000 := sq_le (by omega) (by omega)
      have hb0 : 0 ≤ m * m := Int.mul_nonneg (by omega) (by omega)
      rw [if_pos hlt, wr (by omega) (by omega), wr (x := m + 1) (by omega) (by omega)]
      by_cases c : m * m < n
      · rw [if_pos c]
        refine ih k (m + 1) hi (by omega) (by omega) h2 (fun r hr hm => ?_) h4 (by omega) (by omega)
        have := sq_le hr (show r ≤ m by omega)
        omega
      · rw [if_neg c]
        exact ih k lo m h0 hm1 (by omega) h3 (by omega) (by omega) (by omega)
    · obtain rfl : hi = lo := by omega
      exact impl_end n hi k h0 h2 h3 h4
theorem val (k : Nat) (hk : 100001 ≤ k) (a b c : Int) : ∃ r, spec_WholeLine.f k a b c = some r ∧ impl_WholeLine.f k a b c = some r := by
  simp only [spec_WholeLine.f, impl_WholeLine.f, impl_LineSquare.f, impl_Flight_high.f, impl_Flight_run.f, spec_riSquare.f, riGood_eq, isFlight_eq, Option.bind_some]
  by_cases h1 : flB a b c = true
  · have hb := of_decide_eq_true h1
    simp only [h1, if_true, Option.bind_some]
    have p1 : 0 ≤ a * b := Int.mul_nonneg (by omega) (by omega)
    have p2 : a * b ≤ 100 * 250 := Int.mul_le_mul hb.1.2 hb.2.1.2 (by omega) (by omega)
    have e0 : wrap64 (a - 1) = a - 1 := wr (by omega) (by omega)
    have p3 : 0 ≤ (a - 1) * c := Int.mul_nonneg (by omega) (by omega)
    have p4 : (a - 1) * c ≤ 99 * 500 := Int.mul_le_mul (by omega) hb.2.2.2 (by omega) (by omega)
    rw [e0, wr (x := a * b) (by omega) (by omega), wr (x := (a - 1) * c) (by omega) (by omega)]
    generalize a * b = x at p1 p2
    generalize (a - 1) * c = y at p3 p4
    have q1 : 0 ≤ x * x := Int.mul_nonneg p1 p1
    have q2 : x * x ≤ 25000 * 25000 := sq_le p1 (by omega)
    have q3 : 0 ≤ y * y := Int.mul_nonneg p3 p3
    have q4 : y * y ≤ 49500 * 49500 := sq_le p3 (by omega)
    rw [wr (x := x * x) (by omega) (by omega), wr (x := y * y) (by omega) (by omega), wr (x := x * x + y * y) (by omega) (by omega)]
    generalize hn : x * x + y * y = n
    obtain ⟨p, hp, sp⟩ := spec_l n 100000 k 0 100000 (by omega) (by omega) (by omega) (by omega) (by omega) (by omega) (by omega)
    obtain ⟨q, hq, sq⟩ := impl_l n 100000 k 0 100000 (by omega) (by omega) (by omega) (fun r h0 h1 => by omega) (by omega) (by omega) (by omega)
    exact ⟨p, hp, by rw [hq, sq_unique sq sp]⟩
  · simp [h1]
theorem FnExactWholeLine (a0_0 : Int) (a0_1 : Int) (a0_2 : Int) (w0_0 : (Lit.int .i64 a0_0).wf = true) (w0_1 : (Lit.int .i64 a0_1).wf = true) (w0_2 : (Lit.int .i64 a0_2).wf = true) : ∃ k, laws_FnExactWholeLine.f k a0_0 a0_1 a0_2 = some true := by
  obtain ⟨r, h1, h2⟩ := val 100001 (Nat.le_refl _) a0_0 a0_1 a0_2
  exact ⟨100001, by simp only [laws_FnExactWholeLine.f, laws_toFlight.f, h1, h2, Option.bind_some]; simp⟩

end Go.Proofs.Ytdokbcjmnfobfaa.Pure
