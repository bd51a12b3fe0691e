/- The plain law of FnExactTurnsOf: what the reference's function tells, the program's function tells, for every input. No further condition. -/
import Derived.Test.YtdokbcjmnfobfaaPFnExactTurnsOfx1
namespace Go.Proofs.Ytdokbcjmnfobfaa.Pure
open Go.RowKit Go.Proofs.Ytdokbcjmnfobfaa.PFnExactTurnsOf Go.Proofs.YtdokbcjmnfobfaaW.PrintWords Go.Proofs.YtdokbcjmnfobfaaW.PrintLast
set_option linter.unusedVariables false
set_option linter.unusedSimpArgs false

theorem in_eq (a b c : Int) : spec_l1In.f a b c = some (decide (b ≤ a ∧ a ≤ c)) := by
  unfold spec_l1In.f
  by_cases h : a ≥ b
  · rw [if_pos h]
    simp [show b ≤ a from h]
  · rw [if_neg h]
    simp [show ¬ b ≤ a from h]
theorem within_eq (a b c : Int) : impl_within.f a b c = some (decide (b ≤ a ∧ a ≤ c)) := by
  unfold impl_within.f
  by_cases h : b ≤ a
  · rw [if_pos h]
    simp [h]
  · rw [if_neg h]
    simp [h]
def spB (a b c : Int) : Bool := decide ((1 ≤ a ∧ a ≤ 400) ∧ (3 ≤ b ∧ b ≤ 60) ∧ 1 ≤ c ∧ c ≤ 300)
theorem spGood_eq (a b c : Int) : spec_spGood.f a b c = some (spB a b c) := by
  simp only [spec_spGood.f, in_eq, Option.bind_some, spB, decide_eq_true_eq]
  by_cases h1 : 1 ≤ a ∧ a ≤ 400 <;> by_cases h2 : 3 ≤ b ∧ b ≤ 60 <;> simp [h1, h2]
theorem isSpiral_eq (a b c : Int) : impl_IsSpiral.f a b c = some (spB a b c) := by
  simp only [impl_IsSpiral.f, within_eq, Option.bind_some, spB, decide_eq_true_eq]
  by_cases h1 : 1 ≤ a ∧ a ≤ 400 <;> by_cases h2 : 3 ≤ b ∧ b ≤ 60 <;> simp [h1, h2]
theorem wr {x : Int} (h0 : -9223372036854775808 ≤ x) (h1 : x ≤ 9223372036854775807) : wrap64 x = x := by
  unfold wrap64
  omega
def gI (a b : Int) : Int := (Nat.gcd a.toNat b.toNat : Nat)
theorem gI_step (a b : Int) (ha : 0 ≤ a) (hb : 0 < b) : gI b (Int.tmod a b) = gI a b := by
  obtain ⟨m, rfl⟩ := Int.eq_ofNat_of_zero_le ha
  obtain ⟨n, rfl⟩ := Int.eq_ofNat_of_zero_le (show (0 : Int) ≤ b by omega)
  have e : (Int.tmod (m : Int) (n : Int)).toNat = m % n := by
    rw [Int.tmod_eq_emod_of_nonneg (by omega), ← Int.natCast_emod, Int.toNat_natCast]
  unfold gI
  rw [e, Int.toNat_natCast, Int.toNat_natCast, Nat.gcd_comm m n, Nat.gcd_rec n m, Nat.gcd_comm]
theorem gI_zero (a : Int) (ha : 0 ≤ a) : gI a 0 = a := by
  unfold gI
  simp
  omega
theorem gI_pos (a b : Int) (hb : 0 < b) : 0 < gI a b := by
  unfold gI
  have := Nat.gcd_pos_of_pos_right a.toNat (show 0 < b.toNat by omega)
  omega
theorem tmod_nn (a b : Int) (ha : 0 ≤ a) (hb : 0 < b) : 0 ≤ Int.tmod a b ∧ Int.tmod a b < b := by
  rw [Int.tmod_eq_emod_of_nonneg ha]
  exact ⟨Int.emod_nonneg _ (by omega), Int.emod_lt_of_pos _ hb⟩
theorem gcd_l (d : Nat) : ∀ (k : Nat) (a b : Int), 0 ≤ a → 0 ≤ b → b ≤ d → d < k → impl_gcd.l0 k a b = some (gI a b) := by
  induction d with
  | zero =>
    intro k a b ha hb hd hk
    obtain ⟨k, rfl⟩ : ∃ m, k = m + 1 := ⟨k - 1, by omega⟩
    obtain rfl : b = 0 := by omega
    simp only [impl_gcd.l0]
    rw [if_pos trivial, gI_zero a ha]
  | succ d ih =>
    intro k a b ha hb hd hk
    obtain ⟨k, rfl⟩ : ∃ m, k = m + 1 := ⟨k - 1, by omega⟩
    simp only [impl_gcd.l0]
    by_cases h : b = 0
    · subst h
      rw [if_pos rfl, gI_zero a ha]
    · have z := tmod_nn a b ha (by omega)
      rw [if_neg h, ih k b _ (by omega) z.1 (by omega) (by omega), gI_step a b ha (by omega)]
def lowP (n d : Int) : Int × Int := (wrap64 (Int.tdiv n (gI n d)), wrap64 (Int.tdiv d (gI n d)))
theorem gcd_val (k : Nat) (n d : Int) (hn : 0 ≤ n) (hd : 0 ≤ d) (hk : d.toNat < k) : impl_gcd.f k n d = some (gI n d) := by
  unfold impl_gcd.f
  exact gcd_l d.toNat k n d hn hd (by omega) hk
theorem part_val (k : Nat) (n d : Int) (hn : 0 ≤ n) (hd : 0 < d) (hk : d.toNat < k) : impl_part.f k n d = some ((lowP n d).1, (lowP n d).2, true) := by
  have g := gI_pos n d hd
  simp only [impl_part.f, gcd_val k n d hn (by omega) hk, Option.bind_some, lowP]
  rw [if_neg (by omega), if_neg (by omega)]
theorem part_none (k : Nat) (n d : Int) (hd : d ≤ 0) : impl_part.f k n d = some (0, 0, false) := by
  simp only [impl_part.f]
  rw [if_pos hd]
theorem spLow_l (n d0 : Int) (d : Nat) : ∀ (k : Nat) (a b : Int), 0 ≤ a → 0 ≤ b → 0 < gI a b → b ≤ d → d < k → spec_spLow.l0 k n d0 a b = some (wrap64 (Int.tdiv n (gI a b)), wrap64 (Int.tdiv d0 (gI a b))) := by
  induction d with
  | zero =>
    intro k a b ha hb hg hd hk
    obtain ⟨k, rfl⟩ : ∃ m, k = m + 1 := ⟨k - 1, by omega⟩
    obtain rfl : b = 0 := by omega
    rw [gI_zero a ha] at hg ⊢
    simp only [spec_spLow.l0]
    rw [if_neg (by omega), if_neg (by omega)]
  | succ d ih =>
    intro k a b ha hb hg hd hk
    obtain ⟨k, rfl⟩ : ∃ m, k = m + 1 := ⟨k - 1, by omega⟩
    simp only [spec_spLow.l0]
    by_cases h : b = 0
    · subst h
      rw [gI_zero a ha] at hg ⊢
      rw [if_neg (by omega), if_neg (by omega)]
    · have z := tmod_nn a b ha (by omega)
      have e := gI_step a b ha (by omega)
      rw [if_pos (by omega), if_neg h, ih k b _ (by omega) z.1 (by omega) (by omega) (by omega), e]
theorem spLow_val (k : Nat) (n d : Int) (hn : 0 ≤ n) (hd : 0 < d) (hk : d.toNat < k) : spec_spLow.f k n d = some (lowP n d) := by
  unfold spec_spLow.f
  exact spLow_l n d d.toNat k n d hn (by omega) (gI_pos n d hd) (by omega) hk
theorem val (k : Nat) (hk : 61 ≤ k) (a b c : Int) : ∃ r, spec_TurnsOf.f k a b c = some r ∧ impl_TurnsOf.f k a b c = some r := by
  simp only [impl_TurnsOf.f, spec_TurnsOf.f, spGood_eq, isSpiral_eq, Option.bind_some]
  by_cases h1 : spB a b c = true
  · have hb := of_decide_eq_true h1
    have e : wrap64 (a - 1) = a - 1 := wr (by omega) (by omega)
    simp only [h1, e, if_true, spLow_val k (a - 1) b (by omega) (by omega) (by omega), part_val k (a - 1) b (by omega) (by omega) (by omega), Option.bind_some]
    exact ⟨_, rfl, rfl⟩
  · simp [h1]
theorem FnExactTurnsOf (a0_0 : Int) (a0_1 : Int) (a0_2 : Int) (w0_0 : (Lit.int .i64 a0_0).wf = true) (w0_1 : (Lit.int .i64 a0_1).wf = true) (w0_2 : (Lit.int .i64 a0_2).wf = true) : ∃ k, laws_FnExactTurnsOf.f k a0_0 a0_1 a0_2 = some true := by
  obtain ⟨r, h1, h2⟩ := val 61 (Nat.le_refl _) a0_0 a0_1 a0_2
  exact ⟨61, by simp [laws_FnExactTurnsOf.f, laws_toSpiral.f, h1, h2]⟩

end Go.Proofs.Ytdokbcjmnfobfaa.Pure
