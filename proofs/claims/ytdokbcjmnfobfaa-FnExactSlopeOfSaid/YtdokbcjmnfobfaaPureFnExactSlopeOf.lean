/- The plain law of FnExactSlopeOf: what the reference's function tells, the program's function tells, for every input. No further condition. -/
import Derived.Test.YtdokbcjmnfobfaaPFnExactSlopeOfx1
namespace Go.Proofs.Ytdokbcjmnfobfaa.Pure
open Go.RowKit Go.Proofs.Ytdokbcjmnfobfaa.PFnExactSlopeOf Go.Proofs.YtdokbcjmnfobfaaW.PrintWords Go.Proofs.YtdokbcjmnfobfaaW.PrintLast
set_option linter.unusedVariables false
set_option linter.unusedSimpArgs false

theorem in_eq (a b c : Int) : spec_l1In.f a b c = some (decide (b ≤ a ∧ a ≤ c)) := by
  unfold spec_l1In.f
  by_cases h : a ≥ b
  · rw [if_pos h]
    simp [show b ≤ a from h]
  · rw [if_neg h]
    simp [show ¬ b ≤ a from h]
theorem within_eq (a b c : Int) : impl_within.f a b c = some (decide (b ≤ a ∧ a ≤ c)) := by
  unfold impl_within.f
  by_cases h : b ≤ a
  · rw [if_pos h]
    simp [h]
  · rw [if_neg h]
    simp [h]
def flB (a b c : Int) : Bool := decide ((1 ≤ a ∧ a ≤ 100) ∧ (1 ≤ b ∧ b ≤ 250) ∧ 1 ≤ c ∧ c ≤ 500)
theorem riGood_eq (a b c : Int) : spec_riGood.f a b c = some (flB a b c) := by
  simp only [spec_riGood.f, in_eq, Option.bind_some, flB, decide_eq_true_eq]
  by_cases h1 : 1 ≤ a ∧ a ≤ 100 <;> by_cases h2 : 1 ≤ b ∧ b ≤ 250 <;> simp [h1, h2]
theorem isFlight_eq (a b c : Int) : impl_IsFlight.f a b c = some (flB a b c) := by
  simp only [impl_IsFlight.f, within_eq, Option.bind_some, flB, decide_eq_true_eq]
  by_cases h1 : 1 ≤ a ∧ a ≤ 100 <;> by_cases h2 : 1 ≤ b ∧ b ≤ 250 <;> simp [h1, h2]
def gI (a b : Int) : Int := (Nat.gcd a.toNat b.toNat : Nat)
theorem gI_step (a b : Int) (ha : 0 ≤ a) (hb : 0 < b) : gI b (Int.tmod a b) = gI a b := by
  obtain ⟨m, rfl⟩ := Int.eq_ofNat_of_zero_le ha
  obtain ⟨n, rfl⟩ := Int.eq_ofNat_of_zero_le (show (0 : Int) ≤ b by omega)
  have e : (Int.tmod (m : Int) (n : Int)).toNat = m % n := by
    rw [Int.tmod_eq_emod_of_nonneg (by omega), ← Int.natCast_emod, Int.toNat_natCast]
  unfold gI
  rw [e, Int.toNat_natCast, Int.toNat_natCast, Nat.gcd_comm m n, Nat.gcd_rec n m, Nat.gcd_comm]
theorem gI_zero (a : Int) (ha : 0 ≤ a) : gI a 0 = a := by
  unfold gI
  simp
  omega
theorem gI_pos (a b : Int) (hb : 0 < b) : 0 < gI a b := by
  unfold gI
  have := Nat.gcd_pos_of_pos_right a.toNat (show 0 < b.toNat by omega)
  omega
theorem tmod_nn (a b : Int) (ha : 0 ≤ a) (hb : 0 < b) : 0 ≤ Int.tmod a b ∧ Int.tmod a b < b := by
  rw [Int.tmod_eq_emod_of_nonneg ha]
  exact ⟨Int.emod_nonneg _ (by omega), Int.emod_lt_of_pos _ hb⟩
theorem gcd_l (d : Nat) : ∀ (k : Nat) (a b : Int), 0 ≤ a → 0 ≤ b → b ≤ d → d < k → impl_gcd.l0 k a b = some (gI a b) := by
  induction d with
  | zero =>
    intro k a b ha hb hd hk
    obtain ⟨k, rfl⟩ : ∃ m, k = m + 1 := ⟨k - 1, by omega⟩
    obtain rfl : b = 0 := by omega
    simp only [impl_gcd.l0]
    rw [if_pos trivial, gI_zero a ha]
  | succ d ih =>
    intro k a b ha hb hd hk
    obtain ⟨k, rfl⟩ : ∃ m, k = m + 1 := ⟨k - 1, by omega⟩
    simp only [impl_gcd.l0]
    by_cases h : b = 0
    · subst h
      rw [if_pos rfl, gI_zero a ha]
    · have z := tmod_nn a b ha (by omega)
      rw [if_neg h, ih k b _ (by omega) z.1 (by omega) (by omega), gI_step a b ha (by omega)]
def lowP (n d : Int) : Int × Int := (wrap64 (Int.tdiv n (gI n d)), wrap64 (Int.tdiv d (gI n d)))
theorem gcd_val (k : Nat) (n d : Int) (hn : 0 ≤ n) (hd : 0 ≤ d) (hk : d.toNat < k) : impl_gcd.f k n d = some (gI n d) := by
  unfold impl_gcd.f
  exact gcd_l d.toNat k n d hn hd (by omega) hk
theorem part_val (k : Nat) (n d : Int) (hn : 0 ≤ n) (hd : 0 < d) (hk : d.toNat < k) : impl_part.f k n d = some ((lowP n d).1, (lowP n d).2, true) := by
  have g := gI_pos n d hd
  simp only [impl_part.f, gcd_val k n d hn (by omega) hk, Option.bind_some, lowP]
  rw [if_neg (by omega), if_neg (by omega)]
theorem part_none (k : Nat) (n d : Int) (hd : d ≤ 0) : impl_part.f k n d = some (0, 0, false) := by
  simp only [impl_part.f]
  rw [if_pos hd]
theorem moLow_l (n d0 : Int) (d : Nat) : ∀ (k : Nat) (a b : Int), 0 ≤ a → 0 ≤ b → 0 < gI a b → b ≤ d → d < k → spec_moLow.l0 k n d0 a b = some (wrap64 (Int.tdiv n (gI a b)), wrap64 (Int.tdiv d0 (gI a b))) := by
  induction d with
  | zero =>
    intro k a b ha hb hg hd hk
    obtain ⟨k, rfl⟩ : ∃ m, k = m + 1 := ⟨k - 1, by omega⟩
    obtain rfl : b = 0 := by omega
    rw [gI_zero a ha] at hg ⊢
    simp only [spec_moLow.l0]
    rw [if_neg (by omega), if_neg (by omega)]
  | succ d ih =>
    intro k a b ha hb hg hd hk
    obtain ⟨k, rfl⟩ : ∃ m, k = m + 1 := ⟨k - 1, by omega⟩
    simp only [spec_moLow.l0]
    by_cases h : b = 0
    · subst h
      rw [gI_zero a ha] at hg ⊢
      rw [if_neg (by omega), if_neg (by omega)]
    · have z := tmod_nn a b ha (by omega)
      have e := gI_step a b ha (by omega)
      rw [if_pos (by omega), if_neg h, ih k b _ (by omega) z.1 (by omega) (by omega) (by omega), e]
theorem moLow_val (k : Nat) (n d : Int) (hn : 0 ≤ n) (hd : 0 < d) (hk : d.toNat < k) : spec_moLow.f k n d = some (lowP n d) := by
  unfold spec_moLow.f
  exact moLow_l n d d.toNat k n d hn (by omega) (gI_pos n d hd) (by omega) hk
theorem val (k : Nat) (hk : 501 ≤ k) (a b c : Int) : ∃ r, spec_SlopeOf.f k a b c = some r ∧ impl_SlopeOf.f k a b c = some r := by
  simp only [impl_SlopeOf.f, spec_SlopeOf.f, riGood_eq, isFlight_eq, Option.bind_some]
  by_cases h1 : flB a b c = true
  · have hb := of_decide_eq_true h1
    simp only [h1, if_true, moLow_val k b c (by omega) (by omega) (by omega), part_val k b c (by omega) (by omega) (by omega), Option.bind_some]
    exact ⟨_, rfl, rfl⟩
  · simp [h1]
theorem FnExactSlopeOf (a0_0 : Int) (a0_1 : Int) (a0_2 : Int) (w0_0 : (Lit.int .i64 a0_0).wf = true) (w0_1 : (Lit.int .i64 a0_1).wf = true) (w0_2 : (Lit.int .i64 a0_2).wf = true) : ∃ k, laws_FnExactSlopeOf.f k a0_0 a0_1 a0_2 = some true := by
  obtain ⟨r, h1, h2⟩ := val 501 (Nat.le_refl _) a0_0 a0_1 a0_2
  exact ⟨501, by simp [laws_FnExactSlopeOf.f, laws_toFlight.f, h1, h2]⟩

end Go.Proofs.Ytdokbcjmnfobfaa.Pure
