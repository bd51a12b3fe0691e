/- The plain law of FnRisersFitOfAll: what the reference's function tells, the program's function tells, for every input. No further condition. -/
import Derived.Test.YtbmdgmmegchmnaaDoorZR10
import Derived.Lib.ItoaNum
import Derived.Lib.ItoaLen
import Derived.Lib.AtoiAllCases
import Derived.Lib.Atoi
import Derived.Lib.Split
import Derived.Lib.SplitLaws
namespace Go.Proofs.YtbmdgmmegchmnaaDoor.Pure
open Go.RowKit Go.Proofs.YtbmdgmmegchmnaaDoor.R Go.Proofs.YtbmdgmmegchmnaaDoorW.PrintWords Go.Proofs.YtbmdgmmegchmnaaDoorW.PrintLast
set_option linter.unusedVariables false
set_option linter.unusedSimpArgs false
theorem in_eq (a b c : Int) : spec_l1In.f a b c = some (decide (b ≤ a ∧ a ≤ c)) := by
  unfold spec_l1In.f
  by_cases h : a ≥ b
  · rw [if_pos h]
    simp [show b ≤ a from h]
  · rw [if_neg h]
    simp [show ¬ b ≤ a from h]
theorem within_eq (a b c : Int) : impl_within.f a b c = some (decide (b ≤ a ∧ a ≤ c)) := by
  unfold impl_within.f
  by_cases h : b ≤ a
  · rw [if_pos h]
    simp [h]
  · rw [if_neg h]
    simp [h]
def flB (a b c : Int) : Bool := decide ((1 ≤ a ∧ a ≤ 100) ∧ (1 ≤ b ∧ b ≤ 250) ∧ 1 ≤ c ∧ c ≤ 500)
theorem riGood_eq (a b c : Int) : spec_riGood.f a b c = some (flB a b c) := by
  simp only [spec_riGood.f, in_eq, Option.bind_some, flB, decide_eq_true_eq]
  by_cases h1 : 1 ≤ a ∧ a ≤ 100 <;> by_cases h2 : 1 ≤ b ∧ b ≤ 250 <;> simp [h1, h2]
theorem isFlight_eq (a b c : Int) : impl_IsFlight.f a b c = some (flB a b c) := by
  simp only [impl_IsFlight.f, within_eq, Option.bind_some, flB, decide_eq_true_eq]
  by_cases h1 : 1 ≤ a ∧ a ≤ 100 <;> by_cases h2 : 1 ≤ b ∧ b ≤ 250 <;> simp [h1, h2]
theorem wr {x : Int} (h0 : -9223372036854775808 ≤ x) (h1 : x ≤ 9223372036854775807) : wrap64 x = x := by
  unfold wrap64
  omega
def R (h lo most : Int) : Nat → Int → List Int
  | 0, _ => []
  | d + 1, i => if Int.tmod h i = 0 ∧ lo ≤ wrap64 (Int.tdiv h i) ∧ wrap64 (Int.tdiv h i) ≤ most then i :: R h lo most d (i + 1) else R h lo most d (i + 1)
theorem R_yes {h lo most : Int} {d : Nat} {i : Int} (c : Int.tmod h i = 0 ∧ lo ≤ wrap64 (Int.tdiv h i) ∧ wrap64 (Int.tdiv h i) ≤ most) : R h lo most (d + 1) i = i :: R h lo most d (i + 1) := by
  simp only [R]
  rw [if_pos c]
theorem R_no {h lo most : Int} {d : Nat} {i : Int} (c : ¬ (Int.tmod h i = 0 ∧ lo ≤ wrap64 (Int.tdiv h i) ∧ wrap64 (Int.tdiv h i) ≤ most)) : R h lo most (d + 1) i = R h lo most d (i + 1) := by
  simp only [R]
  rw [if_neg c]
theorem R_length (h lo most : Int) (d : Nat) : ∀ i, (R h lo most d i).length ≤ d := by
  induction d with
  | zero => intro i; exact Nat.le_refl _
  | succ d ih =>
    intro i
    have := ih (i + 1)
    simp only [R]
    split
    · simp only [List.length_cons]; omega
    · omega
theorem R_mem (h lo most : Int) (d : Nat) : ∀ i n, n ∈ R h lo most d i → i ≤ n ∧ n < i + d ∧ Int.tmod h n = 0 ∧ lo ≤ wrap64 (Int.tdiv h n) ∧ wrap64 (Int.tdiv h n) ≤ most := by
  induction d with
  | zero => intro i n hn; simp [R] at hn
  | succ d ih =>
    intro i n hn
    simp only [R] at hn
    split at hn
    · rename_i c
      rcases List.mem_cons.mp hn with e | e
      · subst e; exact ⟨by omega, by omega, c⟩
      · have := ih _ _ e; exact ⟨by omega, by omega, this.2.2⟩
    · have := ih _ _ hn; exact ⟨by omega, by omega, this.2.2⟩
theorem impl_R (h lo most : Int) (d : Nat) : ∀ (k : Nat) (i : Int) (acc : List Int), 1 ≤ i → i + d = 101 → d < k → acc.length + d < 1000 → impl_WholeRisers.l0 k h lo most acc i = some (acc ++ R h lo most d i, true) := by
  induction d with
  | zero =>
    intro k i acc h1 h2 hk hl
    obtain ⟨k, rfl⟩ : ∃ m, k = m + 1 := ⟨k - 1, by omega⟩
    simp only [impl_WholeRisers.l0, R, List.append_nil]
    rw [if_neg (by omega)]
  | succ d ih =>
    intro k i acc h1 h2 hk hl
    obtain ⟨k, rfl⟩ : ∃ m, k = m + 1 := ⟨k - 1, by omega⟩
    have ew : wrap64 (i + 1) = i + 1 := wr (by omega) (by omega)
    simp only [impl_WholeRisers.l0, R, within_eq, Option.bind_some, ew]
    rw [if_pos (show i ≤ 100 by omega), if_neg (show ¬ i = 0 by omega)]
    by_cases c : Int.tmod h i = 0
    · by_cases g : lo ≤ wrap64 (Int.tdiv h i) ∧ wrap64 (Int.tdiv h i) ≤ most
      · rw [if_pos c, if_pos (decide_eq_true g), if_pos (by omega), if_pos ⟨c, g⟩, ih k (i + 1) _ (by omega) (by omega) (by omega) (by simp only [List.length_append, List.length_singleton]; omega)]
        simp
      · rw [if_pos c, if_neg (by simpa using g), if_neg (fun z => g z.2), ih k (i + 1) _ (by omega) (by omega) (by omega) (by omega)]
    · rw [if_neg c, if_neg (fun z => c z.1), ih k (i + 1) _ (by omega) (by omega) (by omega) (by omega)]
def wrB (h lo most : Int) : Bool := decide ((1 ≤ h ∧ h ≤ 6000) ∧ (1 ≤ lo ∧ lo ≤ 250) ∧ 1 ≤ most ∧ most ≤ 250)
theorem impl_WR (k : Nat) (hk : 200 ≤ k) (h lo most : Int) : impl_WholeRisers.f k h lo most = some (if wrB h lo most = true then (R h lo most 100 1, true) else ([], false)) := by
  obtain ⟨k, rfl⟩ : ∃ m, k = m + 1 := ⟨k - 1, by omega⟩
  simp only [impl_WholeRisers.f, impl_isHigh.f, within_eq, Option.bind_some, impl_WholeRisers.j0, wrB, decide_eq_true_eq]
  by_cases c1 : 1 ≤ h ∧ h ≤ 6000 <;> by_cases c2 : 1 ≤ lo ∧ lo ≤ 250 <;> by_cases c3 : 1 ≤ most ∧ most ≤ 250
  · simp only [c1, c2, c3, and_self, decide_true, if_true, Bool.not_true, Bool.false_eq_true, if_false]
    rw [impl_R h lo most 100 k 1 [] (by omega) (by omega) (by omega) (by simp)]
    rfl
  all_goals simp [c1, c2, c3]
theorem div_facts (h i : Int) (h1 : 1 ≤ h) (h2 : h ≤ 6000) (i1 : 1 ≤ i) (c : Int.tmod h i = 0) : 1 ≤ wrap64 (Int.tdiv h i) ∧ wrap64 (Int.tdiv h i) ≤ 6000 ∧ h = i * wrap64 (Int.tdiv h i) := by
  have e1 : Int.tmod h i = h % i := Int.tmod_eq_emod_of_nonneg (by omega)
  have e2 : Int.tdiv h i = h / i := Int.tdiv_eq_ediv_of_nonneg (by omega)
  have e3 := Int.mul_ediv_add_emod h i
  have e4 : 0 ≤ h / i := Int.ediv_nonneg (by omega) (by omega)
  have e5 : h / i ≤ h := Int.ediv_le_self _ (by omega)
  rw [e2, wr (by omega) (by omega)]
  rw [e1] at c
  rw [c, Int.add_zero] at e3
  refine ⟨?_, by omega, e3.symm⟩
  rcases (show h / i = 0 ∨ 1 ≤ h / i by omega) with z | z
  · rw [z, Int.mul_zero] at e3
    omega
  · exact z
def gI (a b : Int) : Int := (Nat.gcd a.toNat b.toNat : Nat)
theorem gI_step (a b : Int) (ha : 0 ≤ a) (hb : 0 < b) : gI b (Int.tmod a b) = gI a b := by
  obtain ⟨m, rfl⟩ := Int.eq_ofNat_of_zero_le ha
  obtain ⟨n, rfl⟩ := Int.eq_ofNat_of_zero_le (show (0 : Int) ≤ b by omega)
  have e : (Int.tmod (m : Int) (n : Int)).toNat = m % n := by
    rw [Int.tmod_eq_emod_of_nonneg (by omega), ← Int.natCast_emod, Int.toNat_natCast]
  unfold gI
  rw [e, Int.toNat_natCast, Int.toNat_natCast, Nat.gcd_comm m n, Nat.gcd_rec n m, Nat.gcd_comm]
theorem gI_zero (a : Int) (ha : 0 ≤ a) : gI a 0 = a := by
  unfold gI
  simp
  omega
theorem gI_pos (a b : Int) (hb : 0 < b) : 0 < gI a b := by
  unfold gI
  have := Nat.gcd_pos_of_pos_right a.toNat (show 0 < b.toNat by omega)
  omega
theorem tmod_nn (a b : Int) (ha : 0 ≤ a) (hb : 0 < b) : 0 ≤ Int.tmod a b ∧ Int.tmod a b < b := by
  rw [Int.tmod_eq_emod_of_nonneg ha]
  exact ⟨Int.emod_nonneg _ (by omega), Int.emod_lt_of_pos _ hb⟩
theorem gcd_l (d : Nat) : ∀ (k : Nat) (a b : Int), 0 ≤ a → 0 ≤ b → b ≤ d → d < k → impl_gcd.l0 k a b = some (gI a b) := by
  induction d with
  | zero =>
    intro k a b ha hb hd hk
    obtain ⟨k, rfl⟩ : ∃ m, k = m + 1 := ⟨k - 1, by omega⟩
    obtain rfl : b = 0 := by omega
    simp only [impl_gcd.l0]
    rw [if_pos trivial, gI_zero a ha]
  | succ d ih =>
    intro k a b ha hb hd hk
    obtain ⟨k, rfl⟩ : ∃ m, k = m + 1 := ⟨k - 1, by omega⟩
    simp only [impl_gcd.l0]
    by_cases h : b = 0
    · subst h
      rw [if_pos rfl, gI_zero a ha]
    · have z := tmod_nn a b ha (by omega)
      rw [if_neg h, ih k b _ (by omega) z.1 (by omega) (by omega), gI_step a b ha (by omega)]
def lowP (n d : Int) : Int × Int := (wrap64 (Int.tdiv n (gI n d)), wrap64 (Int.tdiv d (gI n d)))
theorem gcd_val (k : Nat) (n d : Int) (hn : 0 ≤ n) (hd : 0 ≤ d) (hk : d.toNat < k) : impl_gcd.f k n d = some (gI n d) := by
  unfold impl_gcd.f
  exact gcd_l d.toNat k n d hn hd (by omega) hk
theorem part_val (k : Nat) (n d : Int) (hn : 0 ≤ n) (hd : 0 < d) (hk : d.toNat < k) : impl_part.f k n d = some ((lowP n d).1, (lowP n d).2, true) := by
  have g := gI_pos n d hd
  simp only [impl_part.f, gcd_val k n d hn (by omega) hk, Option.bind_some, lowP]
  rw [if_neg (by omega), if_neg (by omega)]
theorem moLow_l (n d0 : Int) (d : Nat) : ∀ (k : Nat) (a b : Int), 0 ≤ a → 0 ≤ b → 0 < gI a b → b ≤ d → d < k → spec_moLow.l0 k n d0 a b = some (wrap64 (Int.tdiv n (gI a b)), wrap64 (Int.tdiv d0 (gI a b))) := by
  induction d with
  | zero =>
    intro k a b ha hb hg hd hk
    obtain ⟨k, rfl⟩ : ∃ m, k = m + 1 := ⟨k - 1, by omega⟩
    obtain rfl : b = 0 := by omega
    rw [gI_zero a ha] at hg ⊢
    simp only [spec_moLow.l0]
    rw [if_neg (by omega), if_neg (by omega)]
  | succ d ih =>
    intro k a b ha hb hg hd hk
    obtain ⟨k, rfl⟩ : ∃ m, k = m + 1 := ⟨k - 1, by omega⟩
    simp only [spec_moLow.l0]
    by_cases h : b = 0
    · subst h
      rw [gI_zero a ha] at hg ⊢
      rw [if_neg (by omega), if_neg (by omega)]
    · have z := tmod_nn a b ha (by omega)
      have e := gI_step a b ha (by omega)
      rw [if_pos (by omega), if_neg h, ih k b _ (by omega) z.1 (by omega) (by omega) (by omega), e]
theorem moLow_val (k : Nat) (n d : Int) (hn : 0 ≤ n) (hd : 0 < d) (hk : d.toNat < k) : spec_moLow.f k n d = some (lowP n d) := by
  unfold spec_moLow.f
  exact moLow_l n d d.toNat k n d hn (by omega) (gI_pos n d hd) (by omega) hk
section Mt1
theorem wr0 {x : Int} (h0 : -9223372036854775808 ≤ x) (h1 : x ≤ 9223372036854775807) : wrap64 x = x := by
  unfold wrap64
  omega
def Low (n d a b : Int) : Prop := 0 ≤ a ∧ 1 ≤ b ∧ gI a b = 1 ∧ a * d = n * b ∧ b ≤ d ∧ a ≤ n
theorem low_lowP (n d : Int) (hn : 0 ≤ n) (hn2 : n ≤ 4611686018427387904) (hd : 0 < d) (hd2 : d ≤ 4611686018427387904) : Low n d (lowP n d).1 (lowP n d).2 := by
  obtain ⟨x, rfl⟩ : ∃ x : Nat, n = x := ⟨n.toNat, by omega⟩
  obtain ⟨y, rfl⟩ : ∃ y : Nat, d = y := ⟨d.toNat, by omega⟩
  have hg : 0 < Nat.gcd x y := Nat.gcd_pos_of_pos_right x (by omega)
  obtain ⟨p, hp⟩ := Nat.gcd_dvd_left x y
  obtain ⟨q, hq⟩ := Nat.gcd_dvd_right x y
  have e : gI (x : Int) (y : Int) = (Nat.gcd x y : Nat) := by unfold gI; rw [Int.toNat_natCast, Int.toNat_natCast]
  have ep : Int.tdiv (x : Int) (gI (x : Int) (y : Int)) = (p : Int) := by
    rw [e, ← Int.ofNat_tdiv]
    congr 1
    rw [Nat.div_eq_of_eq_mul_right hg hp]
  have eq : Int.tdiv (y : Int) (gI (x : Int) (y : Int)) = (q : Int) := by
    rw [e, ← Int.ofNat_tdiv]
    congr 1
    rw [Nat.div_eq_of_eq_mul_right hg hq]
  have hpx : p ≤ x := by rw [hp]; exact Nat.le_mul_of_pos_left p hg
  have hqy : q ≤ y := by rw [hq]; exact Nat.le_mul_of_pos_left q hg
  have hq1 : 1 ≤ q := by
    rcases Nat.eq_zero_or_pos q with z | z
    · subst z; rw [Nat.mul_zero] at hq; omega
    · exact z
  have hc : Nat.gcd p q = 1 := by
    have h1 : Nat.gcd (Nat.gcd x y * p) (Nat.gcd x y * q) = Nat.gcd x y * Nat.gcd p q := Nat.gcd_mul_left _ _ _
    rw [← hp, ← hq] at h1
    have h2 : Nat.gcd x y * 1 = Nat.gcd x y * Nat.gcd p q := by rw [Nat.mul_one]; exact h1
    exact (Nat.eq_of_mul_eq_mul_left hg h2).symm
  unfold Low lowP
  simp only [ep, eq]
  rw [wr0 (by omega) (by omega), wr0 (by omega) (by omega)]
  refine ⟨by omega, by omega, ?_, ?_, by omega, by omega⟩
  · unfold gI; rw [Int.toNat_natCast, Int.toNat_natCast, hc]; rfl
  · have : p * y = x * q := by
      calc p * y = p * (Nat.gcd x y * q) := by rw [← hq]
        _ = (Nat.gcd x y * p) * q := by rw [← Nat.mul_assoc, Nat.mul_comm p]
        _ = x * q := by rw [← hp]
    exact_mod_cast this
theorem lLow_l (d : Nat) : ∀ (k : Nat) (a b : Int), 0 ≤ a → 0 ≤ b → b ≤ d → d < k → laws_lLow.l0 k a b = some (gI a b == 1) := by
  induction d with
  | zero =>
    intro k a b ha hb hd hk
    obtain ⟨k, rfl⟩ : ∃ m, k = m + 1 := ⟨k - 1, by omega⟩
    obtain rfl : b = 0 := by omega
    simp only [laws_lLow.l0]
    rw [if_neg (by omega), gI_zero a ha]
  | succ d ih =>
    intro k a b ha hb hd hk
    obtain ⟨k, rfl⟩ : ∃ m, k = m + 1 := ⟨k - 1, by omega⟩
    simp only [laws_lLow.l0]
    by_cases h : b = 0
    · subst h
      rw [if_neg (by omega), gI_zero a ha]
    · have z := tmod_nn a b ha (by omega)
      rw [if_pos (by omega), if_neg h, ih k b _ (by omega) z.1 (by omega) (by omega), gI_step a b ha (by omega)]
theorem lLow_val (k : Nat) (a b : Int) (ha : 0 ≤ a) (hb : 1 ≤ b) (hg : gI a b = 1) (hk : b.toNat + 1 < k) : laws_lLow.f k a b = some true := by
  obtain ⟨k, rfl⟩ : ∃ m, k = m + 1 := ⟨k - 1, by omega⟩
  unfold laws_lLow.f
  rw [if_neg (by omega)]
  simp only [laws_lLow.j0]
  rw [if_neg (by simp; omega), lLow_l b.toNat k a b ha (by omega) (by omega) (by omega), hg]
  rfl
theorem lIs_val (k : Nat) (a b x y : Int) (ha : 0 ≤ a) (hb : 1 ≤ b) (hg : gI a b = 1) (hk : b.toNat + 1 < k) (he : wrap64 (a * y) = wrap64 (x * b)) : laws_lIs.f k a b x y = some true := by
  unfold laws_lIs.f
  rw [lLow_val k a b ha hb hg hk]
  simp only [Option.bind_some, if_true, he, beq_self_eq_true]
end Mt1
theorem rdn (l : List Int) (i : Nat) (h : i < l.length) : rd l (i : Int) = l[i] := by simp [rd, List.getD, h]
theorem lSame_l (l : List Int) (hl : l.length ≤ 1000) : ∀ (n i k : Nat), i + n = l.length → n < k → laws_lSame.l0 k l l (l.length : Int) (i : Int) = some true
  | 0, i, k, hi, hk => by
    obtain ⟨k, rfl⟩ : ∃ m, k = m + 1 := ⟨k - 1, by omega⟩
    simp only [laws_lSame.l0]
    rw [if_neg (by omega)]
  | n + 1, i, k, hi, hk => by
    obtain ⟨k, rfl⟩ : ∃ m, k = m + 1 := ⟨k - 1, by omega⟩
    have ew : wrap64 ((i : Int) + 1) = ((i + 1 : Nat) : Int) := by unfold wrap64; omega
    simp only [laws_lSame.l0, ew]
    rw [if_pos (by omega), if_pos (by omega), if_pos (by omega), if_pos (by omega), if_pos trivial, lSame_l l hl n (i + 1) k (by omega) (by omega)]
theorem lSame_val (l : List Int) (hl : l.length ≤ 1000) (k : Nat) (hk : 1001 ≤ k) : laws_lSame.f k l l = some true := by
  unfold laws_lSame.f
  rw [if_pos rfl]
  exact lSame_l l hl l.length 0 k (by omega) (by omega)
theorem lHas_l (l : List Int) (hl : l.length ≤ 1000) (x : Int) : ∀ (n i k : Nat), i + n = l.length → n < k → laws_lHas.l0 k x l (l.length : Int) (i : Int) = some (decide (x ∈ l.drop i))
  | 0, i, k, hi, hk => by
    obtain ⟨k, rfl⟩ : ∃ m, k = m + 1 := ⟨k - 1, by omega⟩
    simp only [laws_lHas.l0]
    rw [if_neg (by omega), List.drop_of_length_le (by omega)]
    simp
  | n + 1, i, k, hi, hk => by
    obtain ⟨k, rfl⟩ : ∃ m, k = m + 1 := ⟨k - 1, by omega⟩
    have ew : wrap64 ((i : Int) + 1) = ((i + 1 : Nat) : Int) := by unfold wrap64; omega
    have h : i < l.length := by omega
    simp only [laws_lHas.l0, ew, rdn l i h]
    rw [if_pos (by omega), if_pos (by omega), if_pos (by omega), lHas_l l hl x n (i + 1) k (by omega) (by omega), List.drop_eq_getElem_cons h]
    by_cases e : l[i] = x
    · rw [if_pos e]; simp [e]
    · rw [if_neg e]
      congr 1
      rw [decide_eq_decide, List.mem_cons]
      exact ⟨.inr, fun h => h.elim (fun h => absurd h.symm e) id⟩
theorem lHas_val (l : List Int) (hl : l.length ≤ 1000) (x : Int) (k : Nat) (hk : 1001 ≤ k) : laws_lHas.f k l x = some (decide (x ∈ l)) := by
  have := lHas_l l hl x l.length 0 k (by omega) (by omega)
  simpa [laws_lHas.f] using this
theorem lRises_l (l : List Int) (hl : l.length ≤ 1000) (hs : l.Pairwise (· < ·)) : ∀ (n i k : Nat), i + n = l.length + 1 → n < k → 1 ≤ i → laws_lRises.l0 k l (i : Int) = some true
  | 0, i, k, hi, hk, h1 => by
    obtain ⟨k, rfl⟩ : ∃ m, k = m + 1 := ⟨k - 1, by omega⟩
    simp only [laws_lRises.l0]
    rw [if_neg (by omega)]
  | n + 1, i, k, hi, hk, h1 => by
    obtain ⟨k, rfl⟩ : ∃ m, k = m + 1 := ⟨k - 1, by omega⟩
    simp only [laws_lRises.l0]
    by_cases c : i < l.length
    · have ew : wrap64 ((i : Int) + 1) = ((i + 1 : Nat) : Int) := by unfold wrap64; omega
      have em : wrap64 ((i : Int) - 1) = ((i - 1 : Nat) : Int) := by unfold wrap64; omega
      have hlt := List.pairwise_iff_getElem.1 hs (i - 1) i (by omega) c (by omega)
      rw [ew, em, if_pos (by omega), if_pos (by omega), if_pos (by omega), if_pos (by omega), rdn l (i - 1) (by omega), rdn l i c, if_neg (by omega), lRises_l l hl hs n (i + 1) k (by omega) (by omega) (by omega)]
    · rw [if_neg (by omega)]
theorem lRises_val (l : List Int) (hl : l.length ≤ 1000) (hs : l.Pairwise (· < ·)) (k : Nat) (hk : 1002 ≤ k) : laws_lRises.f k l = some true := by
  unfold laws_lRises.f
  exact lRises_l l hl hs l.length 1 k (by omega) (by omega) (by omega)
section Num
open Go.Lib
theorem u8_dig (d : Nat) (h : d < 10) : (UInt8.ofNat (48 + d)).toNat = 48 + d := by
  rw [UInt8.toNat_ofNat']; exact Nat.mod_eq_of_lt (by omega)
theorem dd_step (n : Nat) (h : ¬ n < 10) : decDigits n = decDigits (n / 10) ++ [UInt8.ofNat (48 + n % 10)] := by rw [decDigits, dif_neg h]
theorem dd_len (k : Nat) : ∀ n, n < 10 ^ (k + 1) → (decDigits n).length ≤ k + 1 := by
  induction k with
  | zero => intro n h; rw [decDigits_one (by simpa using h)]; simp
  | succ k ih =>
    intro n h
    by_cases c : n < 10
    · rw [decDigits_one c]; simp
    · rw [dd_step n c, List.length_append]
      have := ih (n / 10) (by rw [Nat.pow_succ] at h; omega)
      simpa using this
theorem dd_pos (n : Nat) : 1 ≤ (decDigits n).length := by
  by_cases c : n < 10
  · rw [decDigits_one c]; simp
  · rw [dd_step n c]; simp
theorem dd_ne (n : Nat) : decDigits n ≠ [] := by intro h; have := dd_pos n; rw [h] at this; simp at this
theorem dd_digit (n : Nat) : ∀ c ∈ decDigits n, 48 ≤ c.toNat ∧ c.toNat ≤ 57 := by
  induction n using Nat.strongRecOn with
  | _ n ih =>
    intro c hc
    by_cases h : n < 10
    · rw [decDigits_one h] at hc
      obtain rfl := List.mem_singleton.1 hc
      rw [u8_dig n h]; omega
    · rw [dd_step n h, List.mem_append] at hc
      rcases hc with hc | hc
      · exact ih (n / 10) (by omega) c hc
      · obtain rfl := List.mem_singleton.1 hc
        rw [u8_dig (n % 10) (by omega)]; omega
theorem hd_app {l r : List UInt8} (h : l ≠ []) : (l ++ r).head? = l.head? := by
  cases l with
  | nil => exact absurd rfl h
  | cons _ _ => rfl
theorem dd_head (n : Nat) (h1 : 1 ≤ n) : (decDigits n).head? ≠ some 48 := by
  induction n using Nat.strongRecOn with
  | _ n ih =>
    by_cases h : n < 10
    · rw [decDigits_one h]
      intro e
      have e' : UInt8.ofNat (48 + n) = 48 := by simpa using e
      have := congrArg UInt8.toNat e'
      rw [u8_dig n h] at this
      have z : (48 : UInt8).toNat = 48 := rfl
      omega
    · rw [dd_step n h, hd_app (dd_ne _)]
      exact ih (n / 10) (by omega) (by omega)
theorem df_app (l : List UInt8) (c : UInt8) : ∀ acc, decFrom acc (l ++ [c]) = (decFrom acc l).bind fun a => (digitVal c).map fun d => a * 10 + d := by
  induction l with
  | nil => intro acc; simp only [List.nil_append, decFrom, Option.bind_some]; cases digitVal c <;> rfl
  | cons b r ih =>
    intro acc
    simp only [List.cons_append, decFrom]
    cases digitVal b with
    | none => rfl
    | some d => exact ih _
theorem dv_dig (d : Nat) (h : d < 10) : digitVal (UInt8.ofNat (48 + d)) = some d := by
  unfold digitVal; rw [u8_dig d h, if_pos (by omega)]; congr 1; omega
theorem df_dec (n : Nat) : decFrom 0 (decDigits n) = some n := by
  induction n using Nat.strongRecOn with
  | _ n ih =>
    by_cases h : n < 10
    · rw [decDigits_one h]; simp only [decFrom, dv_dig n h]; congr 1; omega
    · rw [dd_step n h, df_app, ih (n / 10) (by omega), Option.bind_some, dv_dig _ (by omega), Option.map_some]; congr 1; omega
theorem dv_back {c : UInt8} {d : Nat} (h : digitVal c = some d) : d < 10 ∧ c = UInt8.ofNat (48 + d) := by
  obtain ⟨h1, h2, h3⟩ := digitVal_eq h
  refine ⟨by omega, ?_⟩
  apply UInt8.toNat_inj.1
  rw [u8_dig d (by omega)]; omega
theorem df_canon : ∀ (k : Nat) (l : List UInt8) (m : Nat), l.length = k → l ≠ [] → (l.head? = some 48 → l.length = 1) → decFrom 0 l = some m → decDigits m = l ∧ (l.head? ≠ some 48 → 1 ≤ m)
  | 0, l, m, hk, hne, _, _ => absurd (List.eq_nil_of_length_eq_zero hk) hne
  | k + 1, l, m, hk, hne, hz, hm => by
    obtain ⟨r, c, rfl⟩ : ∃ r c, l = r ++ [c] := ⟨l.dropLast, l.getLast hne, (List.dropLast_concat_getLast hne).symm⟩
    rw [df_app] at hm
    cases hr : decFrom 0 r with
    | none => rw [hr] at hm; cases hm
    | some a =>
      rw [hr, Option.bind_some] at hm
      cases hd : digitVal c with
      | none => rw [hd] at hm; cases hm
      | some d =>
        rw [hd, Option.map_some] at hm
        obtain rfl := Option.some.inj hm
        obtain ⟨d10, rfl⟩ := dv_back hd
        by_cases e : r = []
        · subst e
          simp only [decFrom] at hr
          obtain rfl := Option.some.inj hr
          rw [show 0 * 10 + d = d by omega, decDigits_one d10]
          refine ⟨rfl, fun h => ?_⟩
          rcases Nat.eq_zero_or_pos d with z | z
          · subst z; exact absurd rfl h
          · exact z
        · have hh : (r ++ [UInt8.ofNat (48 + d)]).head? = r.head? := hd_app e
          have hr1 : 1 ≤ r.length := by cases r with | nil => exact absurd rfl e | cons _ _ => simp
          have nz : r.head? ≠ some 48 := fun h => by
            have := hz (hh.trans h)
            simp only [List.length_append, List.length_cons, List.length_nil] at this
            omega
          obtain ⟨i1, i2⟩ := df_canon k r a (by simpa using hk) e (fun h => absurd h nz) hr
          have := i2 nz
          refine ⟨?_, fun _ => by omega⟩
          rw [dd_step (a * 10 + d) (by omega), show (a * 10 + d) / 10 = a by omega, show (a * 10 + d) % 10 = d by omega, i1]
theorem pu_of_df : ∀ (l : List UInt8) (acc m : Nat), decFrom acc l = some m → l.length ≤ 8 → acc < 1000000000 * 10 ^ (8 - l.length) → parseUint10 acc l = .ok m
  | [], acc, m, h, _, _ => by simp only [decFrom] at h; obtain rfl := Option.some.inj h; rfl
  | c :: r, acc, m, h, hl, ha => by
    simp only [decFrom] at h
    cases hd : digitVal c with
    | none => rw [hd] at h; cases h
    | some d =>
      rw [hd] at h
      obtain ⟨h1, h2, h3⟩ := digitVal_eq hd
      simp only [List.length_cons] at hl ha
      have hp : 10 ^ (8 - r.length) = 10 * 10 ^ (8 - (r.length + 1)) := by
        rw [show 8 - r.length = (8 - (r.length + 1)) + 1 by omega, Nat.pow_succ]; omega
      have hb : 10 ^ (8 - (r.length + 1)) ≤ 10 ^ 7 := Nat.pow_le_pow_right (by decide) (by omega)
      have e7 : (10 : Nat) ^ 7 = 10000000 := by decide
      simp only [parseUint10]
      rw [if_pos ⟨h1, h2⟩, if_neg (by omega), if_neg (by omega), ← h3]
      exact pu_of_df r (acc * 10 + d) m h (by omega) (by rw [hp]; omega)
theorem atoi_dec (n : Nat) (h : n ≤ 999999) : atoiAll (decDigits n) = .ok (n : Int) := by
  have hl := dd_len 5 n (by omega)
  have hp : parseMag (decDigits n) = .ok n := by
    unfold parseMag
    rw [if_neg (dd_ne n)]
    exact pu_of_df _ _ _ (df_dec n) (by omega) (Nat.mul_pos (by decide) (Nat.pow_pos (by decide)))
  cases e : decDigits n with
  | nil => exact absurd e (dd_ne n)
  | cons c r =>
    have hc := dd_digit n c (by rw [e]; simp)
    rw [atoiAll_plain c r (by omega) (by omega), ← e, hp]
    simp only [signless]
    rw [if_neg (by omega)]
def numOf (l : List UInt8) : Int :=
  match atoiAll l with
  | .ok v => if v < 0 then -1 else if 999999 < v then -1 else if itoa v = l then v else -1
  | _ => -1
theorem itoa_dec (n : Nat) : itoa (n : Int) = decDigits n := by
  unfold itoa; rw [if_neg (by omega)]; rfl
theorem numOf_dec (n : Nat) (h : n ≤ 999999) : numOf (decDigits n) = n := by
  unfold numOf
  rw [atoi_dec n h]
  simp only
  rw [if_neg (by omega), if_neg (by omega), if_pos (itoa_dec n)]
theorem numOf_cases (l : List UInt8) : numOf l = -1 ∨ ∃ n : Nat, n ≤ 999999 ∧ numOf l = n ∧ l = decDigits n := by
  unfold numOf
  cases atoiAll l with
  | ok v =>
    simp only
    by_cases c1 : v < 0
    · rw [if_pos c1]; exact .inl rfl
    · rw [if_neg c1]
      by_cases c2 : 999999 < v
      · rw [if_pos c2]; exact .inl rfl
      · rw [if_neg c2]
        by_cases c3 : itoa v = l
        · rw [if_pos c3]
          obtain ⟨n, rfl⟩ : ∃ n : Nat, v = n := ⟨v.toNat, by omega⟩
          exact .inr ⟨n, by omega, rfl, by rw [← c3, itoa_dec]⟩
        · rw [if_neg c3]; exact .inl rfl
  | _ => exact .inl rfl
def readOf (l : List UInt8) : Int :=
  if 1 ≤ l.length ∧ l.length ≤ 6 ∧ (l.head? = some 48 → l.length = 1) then (match decFrom 0 l with | some m => (m : Int) | none => -1) else -1
theorem readOf_eq (l : List UInt8) : readOf l = numOf l := by
  have key : ∀ n : Nat, n ≤ 999999 → readOf (decDigits n) = n := fun n h => by
    unfold readOf
    have h1 := dd_pos n
    have h6 := dd_len 5 n (by omega)
    have hz : (decDigits n).head? = some 48 → (decDigits n).length = 1 := fun hz => by
      rcases Nat.eq_zero_or_pos n with z | z
      · subst z; rw [decDigits_one (by omega)]; rfl
      · exact absurd hz (dd_head n z)
    rw [if_pos ⟨h1, h6, hz⟩, df_dec n]
  have back : readOf l = -1 ∨ ∃ n : Nat, n ≤ 999999 ∧ l = decDigits n := by
    unfold readOf
    by_cases c : 1 ≤ l.length ∧ l.length ≤ 6 ∧ (l.head? = some 48 → l.length = 1)
    · rw [if_pos c]
      cases hm : decFrom 0 l with
      | none => exact .inl rfl
      | some m =>
        have hlt := decFrom_lt l 0 m hm
        have hp : 10 ^ l.length ≤ 10 ^ 6 := Nat.pow_le_pow_right (by decide) c.2.1
        have e6 : (10 : Nat) ^ 6 = 1000000 := by decide
        refine .inr ⟨m, by omega, ((df_canon l.length l m rfl (fun e => by rw [e] at c; simp at c) c.2.2 hm).1).symm⟩
    · rw [if_neg c]; exact .inl rfl
  rcases numOf_cases l with h | ⟨n, hn, h, rfl⟩
  · rcases back with h' | ⟨n, hn, rfl⟩
    · rw [h, h']
    · rw [numOf_dec n hn, key n hn]
  · rw [h, key n hn]
theorem numOf_none {l : List UInt8} {c : UInt8} (h : c ∈ l) (hc : c.toNat < 48 ∨ 57 < c.toNat) : numOf l = -1 := by
  rcases numOf_cases l with h' | ⟨n, hn, _, rfl⟩
  · exact h'
  · have := dd_digit n c h; omega
theorem numOf_nil : numOf [] = -1 := rfl
theorem numOf_len {l : List UInt8} {k : Nat} (hk : numOf l < 10 ^ (k + 1)) (h0 : 0 ≤ numOf l) : 1 ≤ l.length ∧ l.length ≤ k + 1 := by
  rcases numOf_cases l with h' | ⟨n, hn, e, rfl⟩
  · omega
  · exact ⟨dd_pos n, dd_len k n (by rw [e] at hk; exact_mod_cast hk)⟩
end Num
section Spl
open Go.Lib
def spl (b : UInt8) : List UInt8 → List (List UInt8)
  | [] => [[]]
  | c :: r => if c = b then [] :: spl b r else (match spl b r with | h :: t => (c :: h) :: t | [] => [[c]])
theorem spl_ne (b : UInt8) (l : List UInt8) : spl b l ≠ [] := by
  cases l with
  | nil => simp [spl]
  | cons c r => unfold spl; split <;> (try simp); split <;> simp
theorem spl_hit (b : UInt8) (y : List UInt8) : ∀ x : List UInt8, b ∉ x → spl b (x ++ b :: y) = x :: spl b y
  | [], _ => by simp [spl]
  | c :: r, h => by
    have hc : c ≠ b := fun e => h (by simp [e])
    rw [List.cons_append, spl, if_neg hc, spl_hit b y r (fun e => h (by simp [e]))]
theorem spl_miss (b : UInt8) : ∀ x : List UInt8, b ∉ x → spl b x = [x]
  | [], _ => rfl
  | c :: r, h => by
    have hc : c ≠ b := fun e => h (by simp [e])
    rw [spl, if_neg hc, spl_miss b r (fun e => h (by simp [e]))]
theorem mem_parts (b : UInt8) : ∀ l : List UInt8, b ∈ l → ∃ x y, l = x ++ b :: y ∧ b ∉ x
  | [], h => by cases h
  | c :: r, h => by
    by_cases e : c = b
    · exact ⟨[], r, by simp [e], by simp⟩
    · obtain ⟨x, y, rfl, hx⟩ := mem_parts b r (by simpa [Ne.symm e] using h)
      exact ⟨c :: x, y, rfl, by simp [hx, Ne.symm e]⟩
theorem index_hit (b : UInt8) (y : List UInt8) : ∀ x : List UInt8, b ∉ x → index (x ++ b :: y) [b] = (x.length : Int)
  | [], _ => by rw [List.nil_append, index]; simp [List.isPrefixOf]
  | c :: r, h => by
    have hc : c ≠ b := fun e => h (by simp [e])
    rw [List.cons_append, index, index_hit b y r (fun e => h (by simp [e]))]
    have hp : ([b] : List UInt8).isPrefixOf (c :: (r ++ b :: y)) = false := by simp [List.isPrefixOf, Ne.symm hc]
    rw [hp]
    have : ((r.length : Int) == -1) = false := by rw [beq_eq_false_iff_ne]; omega
    simp [this]
theorem index_miss (b : UInt8) : ∀ x : List UInt8, b ∉ x → index x [b] = -1
  | [], _ => by simp [index]
  | c :: r, h => by
    have hc : c ≠ b := fun e => h (by simp [e])
    rw [index, index_miss b r (fun e => h (by simp [e]))]
    have hp : ([b] : List UInt8).isPrefixOf (c :: r) = false := by simp [List.isPrefixOf, Ne.symm hc]
    rw [hp]; simp
theorem cut_hit (b : UInt8) (x y : List UInt8) (h : b ∉ x) : cut (x ++ b :: y) [b] = (x, y, true) := by
  unfold cut
  rw [index_hit b y x h, if_pos (by omega)]
  simp
theorem cut_miss (b : UInt8) (x : List UInt8) (h : b ∉ x) : cut x [b] = (x, [], false) := by
  unfold cut
  rw [index_miss b x h, if_neg (by omega)]
end Spl
section Txt
open Go.Lib
def nm (n : Int) : ByteArray := ⟨(itoa n).toArray⟩
theorem nm_size (n : Int) : (nm n).size = (itoa n).length := by simp [nm, ByteArray.size]
theorem nm_le (n : Int) (h0 : -9223372036854775808 ≤ n) (h1 : n ≤ 9223372036854775807) : (nm n).size ≤ 21 := by rw [nm_size]; exact itoa_length_le n h0 h1
theorem one_eq (d : Int) (h0 : 0 ≤ d) (h : d < 10) : strOfNums [(wrap64 (48 + d)) % 256] = ⟨#[UInt8.ofNat (48 + d.toNat)]⟩ := by
  have e : (wrap64 (48 + d)) % 256 = 48 + d := by unfold wrap64; omega
  rw [e]
  simp only [strOfNums, List.map_cons, List.map_nil]
  rw [show (48 + d).toNat = 48 + d.toNat by omega]
theorem l1Num_eq (k : Nat) : ∀ (n : Nat), n < 10 ^ (k + 1) → k ≤ 18 → ∀ K, k < K → spec_l1Num.f K (n : Int) = some (nm n) := by
  induction k with
  | zero =>
    intro n h _ K hK
    obtain ⟨K, rfl⟩ : ∃ m, K = m + 1 := ⟨K - 1, by omega⟩
    have h' : n < 10 := by simpa using h
    simp only [spec_l1Num.f]
    rw [if_pos (by omega), one_eq n (by omega) (by omega)]
    unfold nm
    rw [itoa_dec, decDigits_one h', Int.toNat_natCast]
  | succ k ih =>
    intro n h hk K hK
    obtain ⟨K, rfl⟩ : ∃ m, K = m + 1 := ⟨K - 1, by omega⟩
    simp only [spec_l1Num.f]
    by_cases c : n < 10
    · rw [if_pos (by omega), one_eq n (by omega) (by omega)]
      unfold nm
      rw [itoa_dec, decDigits_one c, Int.toNat_natCast]
    · have hn : n / 10 < 10 ^ (k + 1) := by rw [Nat.pow_succ] at h; omega
      have hp : 10 ^ (k + 1) ≤ 10 ^ 18 := Nat.pow_le_pow_right (by decide) (by omega)
      have e18 : (10 : Nat) ^ 18 = 1000000000000000000 := by decide
      have e1 : Int.tdiv (n : Int) 10 = ((n / 10 : Nat) : Int) := (Int.ofNat_tdiv n 10).symm
      have e2 : Int.tmod (n : Int) 10 = ((n % 10 : Nat) : Int) := (Int.ofNat_tmod n 10).symm
      have e3 : wrap64 (((n / 10 : Nat) : Int)) = ((n / 10 : Nat) : Int) := by unfold wrap64; omega
      rw [if_neg (by omega), e1, e3, ih (n / 10) hn (by omega) K (by omega), e2]
      simp only [Option.bind_some]
      rw [one_eq _ (by omega) (by omega)]
      have hl := dd_len k (n / 10) hn
      have hs : (nm ((n / 10 : Nat) : Int)).size = (decDigits (n / 10)).length := by rw [nm_size, itoa_dec]
      rw [if_pos (by rw [hs]; simp [ByteArray.size]; omega)]
      congr 1
      unfold nm
      rw [itoa_dec n, itoa_dec (n / 10), dd_step n c, Int.toNat_natCast]
      apply ByteArray.ext
      simp
theorem l1Num_int (a : Int) (h0 : 0 ≤ a) (h1 : a ≤ 1000000) (K : Nat) (hK : 20 ≤ K) : spec_l1Num.f K a = some (nm a) := by
  obtain ⟨n, rfl⟩ : ∃ n : Nat, a = n := ⟨a.toNat, by omega⟩
  exact l1Num_eq 18 n (by have e : (10 : Nat) ^ (18 + 1) = 10000000000000000000 := by decide
                          omega) (by omega) K (by omega)
theorem itoa_eq (a : Int) (h0 : 0 ≤ a) (h1 : a ≤ 1000000) : strconv_Itoa_108.f a = some (nm a) := by
  unfold strconv_Itoa_108.f
  rw [if_pos (by omega)]; rfl
theorem nm_le' (a : Int) (h0 : 0 ≤ a) (h1 : a ≤ 1000000) : (nm a).size ≤ 21 := nm_le a (by omega) (by omega)
end Txt
section Itn
open Go.Lib
theorem itoa_dig {n : Int} (h : 0 ≤ n) : ∀ c ∈ itoa n, 48 ≤ c.toNat ∧ c.toNat ≤ 57 := by
  obtain ⟨m, rfl⟩ : ∃ m : Nat, n = m := ⟨n.toNat, by omega⟩
  rw [itoa_dec]; exact dd_digit m
theorem numOf_itoa {n : Int} (h : 0 ≤ n) (h2 : n ≤ 999999) : numOf (itoa n) = n := by
  obtain ⟨m, rfl⟩ : ∃ m : Nat, n = m := ⟨n.toNat, by omega⟩
  rw [itoa_dec, numOf_dec m (by omega)]
end Itn
def flTxt (a b c : Int) : ByteArray := (((nm a ++ (⟨#[114]⟩ : ByteArray)) ++ nm b) ++ (⟨#[116]⟩ : ByteArray)) ++ nm c
theorem flText_spec (a b c : Int) (K : Nat) (hK : 20 ≤ K) : spec_FlightText.f K a b c = some (if flB a b c = true then (flTxt a b c, true) else ((⟨#[]⟩ : ByteArray), false)) := by
  unfold spec_FlightText.f
  rw [riGood_eq]
  simp only [Option.bind_some]
  by_cases h : flB a b c = true
  · rw [if_pos h, if_pos h]
    have h' := h
    simp only [flB, decide_eq_true_eq] at h'
    unfold spec_riText.f
    have s1 := nm_le' a (by omega) (by omega)
    have s2 := nm_le' b (by omega) (by omega)
    have s3 := nm_le' c (by omega) (by omega)
    have o1 : (⟨#[114]⟩ : ByteArray).size = 1 := rfl
    have o2 : (⟨#[116]⟩ : ByteArray).size = 1 := rfl
    rw [l1Num_int a (by omega) (by omega) K hK, l1Num_int b (by omega) (by omega) K hK, l1Num_int c (by omega) (by omega) K hK]
    simp only [Option.bind_some, ByteArray.size_append]
    rw [if_pos (by omega), if_pos (by omega), if_pos (by omega), if_pos (by omega)]
    rfl
  · rw [if_neg h, if_neg h]
theorem flText_impl (a b c : Int) : impl_FlightText.f a b c = some (if flB a b c = true then (flTxt a b c, true) else ((⟨#[]⟩ : ByteArray), false)) := by
  unfold impl_FlightText.f
  rw [isFlight_eq]
  simp only [Option.bind_some]
  by_cases h : flB a b c = true
  · rw [if_pos h, if_pos h]
    have h' := h
    simp only [flB, decide_eq_true_eq] at h'
    have s1 := nm_le' a (by omega) (by omega)
    have s2 := nm_le' b (by omega) (by omega)
    have s3 := nm_le' c (by omega) (by omega)
    have o1 : (⟨#[114]⟩ : ByteArray).size = 1 := rfl
    have o2 : (⟨#[116]⟩ : ByteArray).size = 1 := rfl
    rw [itoa_eq a (by omega) (by omega), itoa_eq b (by omega) (by omega), itoa_eq c (by omega) (by omega)]
    simp only [Option.bind_some, ByteArray.size_append]
    rw [if_pos (by omega), if_pos (by omega), if_pos (by omega), if_pos (by omega)]
    rfl
  · rw [if_neg h, if_neg h]
section Prs
open Go.Lib
theorem bt_get (s : ByteArray) (i : Nat) (h : i < s.size) : ∃ c, s.data.toList[i]? = some c ∧ bt s (i : Int) = (c.toNat : Int) := by
  have h' : i < s.data.toList.length := by rw [Array.length_toList]; exact h
  refine ⟨s.data.toList[i], List.getElem?_eq_getElem h', ?_⟩
  unfold bt
  have e : ((i : Int)).toNat = i := Int.toNat_natCast i
  rw [dif_pos (by rw [e]; exact h)]
  simp only [e]
  rw [Array.getElem_toList]
  rfl
theorem drop_get {l : List UInt8} {i : Nat} {c : UInt8} (h : l[i]? = some c) : l.drop i = c :: l.drop (i + 1) := by
  obtain ⟨hi, rfl⟩ := List.getElem?_eq_some_iff.1 h
  exact List.drop_eq_getElem_cons hi
theorem dig_step (n c : Nat) (hn : n < 1000000) (h1 : 48 ≤ c) (h2 : c ≤ 57) : wrap64 ((wrap64 (10 * (n : Int))) + (((c : Int) - 48) % 256)) = ((n * 10 + (c - 48) : Nat) : Int) := by unfold wrap64; omega
theorem w_succ (i : Nat) (h : i < 4611686018427387904) : wrap64 ((i : Int) + 1) = ((i + 1 : Nat) : Int) := by unfold wrap64; omega
theorem l1Read_l0 (s : ByteArray) (hs : s.size ≤ 6) : ∀ (d i n K : Nat), i + d = s.size → d < K → n < 10 ^ i →
    spec_l1Read.l0 K s (n : Int) (i : Int) = some (match decFrom n (s.data.toList.drop i) with | some m => (m : Int) | none => -1)
  | 0, i, n, K, hi, hK, _ => by
    obtain ⟨K, rfl⟩ : ∃ m, K = m + 1 := ⟨K - 1, by omega⟩
    simp only [spec_l1Read.l0]
    rw [if_neg (by omega), List.drop_of_length_le (by rw [Array.length_toList]; have : s.data.size = s.size := rfl
                                                      omega)]
    rfl
  | d + 1, i, n, K, hi, hK, hn => by
    obtain ⟨K, rfl⟩ : ∃ m, K = m + 1 := ⟨K - 1, by omega⟩
    obtain ⟨c, hc, hb⟩ := bt_get s i (by omega)
    have hlt : c.toNat < 256 := c.toNat_lt
    have hp : 10 ^ i ≤ 10 ^ 6 := Nat.pow_le_pow_right (by decide) (by omega)
    have e6 : (10 : Nat) ^ 6 = 1000000 := by decide
    simp only [spec_l1Read.l0]
    rw [if_pos (by omega), if_pos (by omega), hb, drop_get hc]
    simp only [decFrom, digitVal]
    by_cases h1 : c.toNat < 48
    · rw [if_pos (by omega), if_neg (by omega)]
    · rw [if_neg (by omega)]
      by_cases h2 : 57 < c.toNat
      · rw [if_pos (by omega), if_neg (by omega)]
      · rw [if_neg (by omega), if_pos (by omega)]
        rw [dig_step n c.toNat (by omega) (by omega) (by omega), w_succ i (by omega), l1Read_l0 s hs d (i + 1) (n * 10 + (c.toNat - 48)) K (by omega) (by omega) (by rw [Nat.pow_succ]; omega)]
theorem l1Read_eq (s : ByteArray) (K : Nat) (hK : 10 ≤ K) : spec_l1Read.f K s = some (numOf s.data.toList) := by
  rw [← readOf_eq]
  obtain ⟨K, rfl⟩ : ∃ m, K = m + 1 := ⟨K - 1, by omega⟩
  have hz : s.data.toList.length = s.size := Array.length_toList
  unfold spec_l1Read.f readOf
  rw [in_eq]
  simp only [Option.bind_some]
  by_cases h : 1 ≤ s.size ∧ s.size ≤ 6
  · rw [if_pos (by rw [decide_eq_true_eq]; omega), if_pos (by omega)]
    obtain ⟨c, hc, hb⟩ := bt_get s 0 (by omega)
    have hb' : bt s 0 = (c.toNat : Int) := hb
    have hh : s.data.toList.head? = some c := by rw [List.head?_eq_getElem?]; exact hc
    have l0 := l1Read_l0 s h.2 s.size 0 0 K (by omega) (by omega) (by decide)
    simp only [List.drop_zero, Int.natCast_zero] at l0
    have l0' : spec_l1Read.l0 K s 0 0 = some (match decFrom 0 s.data.toList with | some m => (m : Int) | none => -1) := l0
    rw [hb', hh, hz]
    by_cases h0 : c = 48
    · subst h0
      rw [if_pos (by rfl)]
      simp only [spec_l1Read.j0]
      by_cases h1 : s.size = 1
      · rw [if_neg (by simp; omega), l0', if_pos ⟨h.1, h.2, fun _ => h1⟩]
      · rw [if_pos (by simp; omega), if_neg (fun e => h1 (e.2.2 (by simp)))]
    · have hne : c.toNat ≠ 48 := fun e => h0 (UInt8.toNat_inj.1 e)
      rw [if_neg (by omega)]
      simp only [spec_l1Read.j0]
      rw [if_neg (by simp), l0', if_pos ⟨h.1, h.2, fun e => absurd (Option.some.inj e) h0⟩]
  · rw [if_neg (by rw [decide_eq_true_eq]; omega)]
    simp only [spec_l1Read.j0, if_true]
    rw [if_neg (by rw [hz]; omega)]
def pre (x : List UInt8) : List (List UInt8) → List (List UInt8)
  | h :: t => (x ++ h) :: t
  | [] => [x]
theorem pre_nil {l : List (List UInt8)} (h : l ≠ []) : pre [] l = l := by
  cases l with
  | nil => exact absurd rfl h
  | cons _ _ => rfl
theorem spl_ne_cons (b c : UInt8) (r : List UInt8) (h : c ≠ b) (x : List UInt8) : pre x (spl b (c :: r)) = pre (x ++ [c]) (spl b r) := by
  rw [spl, if_neg h]
  cases e : spl b r with
  | nil => exact absurd e (spl_ne b r)
  | cons h t => simp [pre]
theorem extract_toList (s : ByteArray) (a b : Nat) : (s.extract a b).data.toList = (s.data.toList.drop a).take (b - a) := by
  rw [extract_data]
theorem l1Split_l0 (s : ByteArray) (hs : s.size ≤ 1048576) (b : UInt8) : ∀ (d i f K : Nat) (out : List ByteArray), i + d = s.size → f ≤ i → out.length ≤ i → d < K →
    ∃ r, spec_l1Split.l0 K s (b.toNat : Int) out (f : Int) (i : Int) = some r ∧ r.map (·.data.toList) = out.map (·.data.toList) ++ pre ((s.data.toList.drop f).take (i - f)) (spl b (s.data.toList.drop i))
  | 0, i, f, K, out, hi, hf, ho, hK => by
    obtain ⟨K, rfl⟩ : ∃ m, K = m + 1 := ⟨K - 1, by omega⟩
    have hz : s.data.toList.length = s.size := Array.length_toList
    simp only [spec_l1Split.l0]
    refine ⟨out ++ [s.extract f s.size], ?_, ?_⟩
    · rw [if_neg (by omega), if_pos (by omega), if_pos (by omega), if_pos (by omega), Int.toNat_natCast]
    · rw [List.drop_of_length_le (l := s.data.toList) (i := i) (by omega)]
      have : i = s.size := by omega
      simp [spl, pre, extract_toList, this]
  | d + 1, i, f, K, out, hi, hf, ho, hK => by
    obtain ⟨K, rfl⟩ : ∃ m, K = m + 1 := ⟨K - 1, by omega⟩
    obtain ⟨c, hc, hb⟩ := bt_get s i (by omega)
    have e2 := w_succ i (by omega)
    simp only [spec_l1Split.l0]
    rw [if_pos (by omega), if_pos (by omega), hb, drop_get hc]
    by_cases h : c = b
    · subst h
      obtain ⟨r, hr, hm⟩ := l1Split_l0 s hs c d (i + 1) (i + 1) K (out ++ [s.extract f i]) (by omega) (Nat.le_refl _) (by simp; omega) (by omega)
      refine ⟨r, ?_, ?_⟩
      · rw [if_pos rfl, if_pos (by omega), if_pos (by omega), if_pos (by omega), if_pos (by omega), e2, Int.toNat_natCast, Int.toNat_natCast]
        exact hr
      · rw [hm, Nat.sub_self, List.take_zero, pre_nil (spl_ne _ _), spl, if_pos rfl]
        simp [pre, extract_toList]
    · have hne : ¬ (c.toNat : Int) = (b.toNat : Int) := fun e => h (UInt8.toNat_inj.1 (by omega))
      obtain ⟨r, hr, hm⟩ := l1Split_l0 s hs b d (i + 1) f K out (by omega) (by omega) (by omega) (by omega)
      refine ⟨r, ?_, ?_⟩
      · rw [if_neg hne, e2]
        exact hr
      · rw [hm, spl_ne_cons b c _ h]
        congr 2
        rw [show i + 1 - f = (i - f) + 1 by omega, List.take_add_one, List.getElem?_drop, show f + (i - f) = i by omega, hc]
        rfl
theorem l1Split_eq (s : ByteArray) (hs : s.size ≤ 1048576) (b : UInt8) (K : Nat) (hK : 1048600 ≤ K) : ∃ r, spec_l1Split.f K s (b.toNat : Int) = some r ∧ r.map (·.data.toList) = spl b s.data.toList := by
  obtain ⟨r, hr, hm⟩ := l1Split_l0 s hs b s.size 0 0 K [] (by omega) (by omega) (by simp) (by omega)
  refine ⟨r, hr, ?_⟩
  rw [hm]
  simp [pre_nil (spl_ne _ _)]
end Prs
section Prs2
open Go.Lib
theorem num_eq (s : ByteArray) (h : s.size ≤ 281474976710656) : impl_num.f s = some (numOf s.data.toList) := by
  unfold impl_num.f
  rw [if_pos h]
  rfl
theorem Cut_eq (s : ByteArray) (b : UInt8) (h : s.size ≤ 1048576) : strings_Cut.f s (⟨#[b]⟩ : ByteArray) = some ((⟨(cut s.data.toList [b]).1.toArray⟩ : ByteArray), (⟨(cut s.data.toList [b]).2.1.toArray⟩ : ByteArray), (cut s.data.toList [b]).2.2) := by
  unfold strings_Cut.f
  rw [if_pos (by omega)]
theorem cut_len1 (l : List UInt8) (b : UInt8) : ((cut l [b]).1).length ≤ l.length := by
  unfold cut; split
  · exact List.length_take_le' _ _
  · exact Nat.le_refl _
theorem cut_len2 (l : List UInt8) (b : UInt8) : ((cut l [b]).2.1).length ≤ l.length := by
  unfold cut; split
  · simp only [List.length_drop]; omega
  · simp
theorem data_mk (l : List UInt8) : (⟨l.toArray⟩ : ByteArray).data.toList = l := rfl
theorem size_mk (l : List UInt8) : (⟨l.toArray⟩ : ByteArray).size = l.length := by simp [ByteArray.size]
theorem two_of {r : List ByteArray} {x y : List UInt8} (h : r.map (·.data.toList) = [x, y]) : ∃ a b, r = [a, b] ∧ a.data.toList = x ∧ b.data.toList = y := by
  match r, h with
  | [a, b], h => simp at h; exact ⟨a, b, rfl, h.1, h.2⟩
theorem spl_two (b : UInt8) (l : List UInt8) : (∃ x y, l = x ++ b :: y ∧ b ∉ x ∧ b ∉ y ∧ spl b l = [x, y] ∧ cut l [b] = (x, y, true)) ∨ ((spl b l).length ≠ 2 ∧ (b ∈ (cut l [b]).2.1 ∨ (cut l [b]).2.1 = [])) := by
  by_cases h : b ∈ l
  · obtain ⟨x, y, rfl, hx⟩ := mem_parts b l h
    rw [cut_hit b x y hx, spl_hit b y x hx]
    by_cases hy : b ∈ y
    · refine .inr ⟨?_, .inl hy⟩
      obtain ⟨x', y', rfl, hx'⟩ := mem_parts b y hy
      rw [spl_hit b y' x' hx']
      have := spl_ne b y'
      cases e : spl b y' with
      | nil => exact absurd e this
      | cons _ _ => simp
    · exact .inl ⟨x, y, rfl, hx, hy, by rw [spl_miss b y hy], rfl⟩
  · rw [cut_miss b l h, spl_miss b l h]
    exact .inr ⟨by simp, .inr rfl⟩
theorem num_many (b : UInt8) (hb : b.toNat < 48 ∨ 57 < b.toNat) {l : List UInt8} (h : b ∈ l ∨ l = []) : numOf l = -1 := by
  rcases h with h | rfl
  · exact numOf_none h hb
  · exact numOf_nil
end Prs2
theorem cut_mem {l : List UInt8} {b t : UInt8} (h : b ∈ l) (hne : b ≠ t) : b ∈ (Go.Lib.cut l [t]).1 ∨ b ∈ (Go.Lib.cut l [t]).2.1 := by
  by_cases c : t ∈ l
  · obtain ⟨x, y, rfl, hx⟩ := mem_parts t l c
    rw [cut_hit t x y hx]
    simp only [List.mem_append, List.mem_cons] at h
    rcases h with h | h | h
    · exact .inl h
    · exact absurd h hne
    · exact .inr h
  · rw [cut_miss t l c]; exact .inl h
def prF (l : List UInt8) : Int × Int × Int × Bool :=
  if flB (numOf (Go.Lib.cut l [114]).1) (numOf (Go.Lib.cut (Go.Lib.cut l [114]).2.1 [116]).1) (numOf (Go.Lib.cut (Go.Lib.cut l [114]).2.1 [116]).2.1) = true then
    (numOf (Go.Lib.cut l [114]).1, numOf (Go.Lib.cut (Go.Lib.cut l [114]).2.1 [116]).1, numOf (Go.Lib.cut (Go.Lib.cut l [114]).2.1 [116]).2.1, true) else (0, 0, 0, false)
theorem flB_neg2 (a c : Int) : ¬ flB a (-1) c = true := by simp only [flB, decide_eq_true_eq]; omega
theorem flB_neg3 (a b : Int) : ¬ flB a b (-1) = true := by simp only [flB, decide_eq_true_eq]; omega
open Go.Lib in
theorem parseFlight_impl (s : ByteArray) (hs : s.size ≤ 1048576) : impl_ParseFlight.f s = some (prF s.data.toList) := by
  have hz : s.data.toList.length = s.size := Array.length_toList
  have hl1 := cut_len1 s.data.toList 114
  have hl2 := cut_len2 s.data.toList 114
  have hl3 := cut_len1 (cut s.data.toList [114]).2.1 116
  have hl4 := cut_len2 (cut s.data.toList [114]).2.1 116
  unfold impl_ParseFlight.f
  rw [Cut_eq s _ hs]
  simp only [Option.bind_some]
  rw [Cut_eq _ _ (by rw [size_mk]; omega)]
  simp only [Option.bind_some, data_mk]
  rw [num_eq _ (by rw [size_mk]; omega), num_eq _ (by rw [size_mk]; omega), num_eq _ (by rw [size_mk]; omega)]
  simp only [Option.bind_some, data_mk, isFlight_eq]
  unfold prF
  split <;> rfl
open Go.Lib in
theorem parseFlight_spec (s : ByteArray) (hs : s.size ≤ 1048576) (K : Nat) (hK : 1048800 ≤ K) : spec_ParseFlight.f K s = some (prF s.data.toList) := by
  have hz : s.data.toList.length = s.size := Array.length_toList
  obtain ⟨r, hr, hm⟩ := l1Split_eq s hs 114 K (by omega)
  have hr' : spec_l1Split.f K s 114 = some r := hr
  have e : spec_ParseFlight.f K s = spec_riParse.j0 K r (decide ((s.size : Int) > 12) || ((r.length : Int) != 2)) := by
    unfold spec_ParseFlight.f spec_riParse.f
    rw [hr']
    simp only [Option.bind_some]
    by_cases c : (s.size : Int) > 12
    · rw [if_pos c, decide_eq_true c, Bool.true_or]
      cases spec_riParse.j0 K r true <;> rfl
    · rw [if_neg c, decide_eq_false c, Bool.false_or]
      cases spec_riParse.j0 K r ((r.length : Int) != 2) <;> rfl
  rw [e]
  obtain ⟨K, rfl⟩ : ∃ m, K = m + 1 := ⟨K - 1, by omega⟩
  simp only [spec_riParse.j0]
  unfold prF
  rcases spl_two 114 s.data.toList with ⟨x, y, hl, hx, hy, hspl, hcut⟩ | ⟨hne, hb⟩
  · rw [hcut]
    have hlen : s.size = x.length + y.length + 1 := by rw [← hz, hl]; simp; omega
    rw [hspl] at hm
    obtain ⟨a, b, rfl, ha, hb⟩ := two_of hm
    have hbs : b.size = y.length := by rw [← hb]; exact Array.length_toList.symm
    have e0 : rdOf ByteArray.empty [a, b] 0 = a := rfl
    have e1 : rdOf ByteArray.empty [a, b] 1 = b := rfl
    obtain ⟨r2, hr2, hm2⟩ := l1Split_eq b (by omega) 116 K (by omega)
    have hr2' : spec_l1Split.f K b 116 = some r2 := hr2
    rw [hb] at hm2
    simp only
    by_cases c : (s.size : Int) > 12
    · rw [if_pos (by rw [decide_eq_true c]; rfl), if_neg]
      intro g
      rcases spl_two 116 y with ⟨u, v, hl', hu, hv, hspl', hcut'⟩ | ⟨hne', hb'⟩
      · rw [hcut'] at g
        simp only [flB, decide_eq_true_eq] at g
        have e3 : (10 : Int) ^ (2 + 1) = 1000 := by decide
        have h1 := numOf_len (l := x) (k := 2) (by omega) (by omega)
        have h2 := numOf_len (l := u) (k := 2) (by omega) (by omega)
        have h3 := numOf_len (l := v) (k := 2) (by omega) (by omega)
        have : y.length = u.length + v.length + 1 := by rw [hl']; simp; omega
        omega
      · rw [num_many 116 (by decide) hb'] at g
        exact flB_neg3 _ _ g
    · rw [if_neg (by rw [decide_eq_false c]; simp), if_pos (by simp), e1, hr2']
      simp only [Option.bind_some]
      rcases spl_two 116 y with ⟨u, v, hl', hu, hv, hspl', hcut'⟩ | ⟨hne', hb'⟩
      · rw [hcut']
        rw [hspl'] at hm2
        obtain ⟨a2, b2, rfl, ha2, hb2⟩ := two_of hm2
        have f0 : rdOf ByteArray.empty [a2, b2] 0 = a2 := rfl
        have f1 : rdOf ByteArray.empty [a2, b2] 1 = b2 := rfl
        rw [if_pos (by simp), if_pos (by simp), e0, l1Read_eq _ K (by omega)]
        simp only [Option.bind_some]
        rw [if_pos (by simp), f0, l1Read_eq _ K (by omega)]
        simp only [Option.bind_some]
        rw [if_pos (by simp), f1, l1Read_eq _ K (by omega)]
        simp only [Option.bind_some, riGood_eq]
        rw [ha, ha2, hb2]
        split <;> rfl
      · have hlen2 : r2.length ≠ 2 := by
          have := congrArg List.length hm2
          rw [List.length_map] at this
          omega
        rw [if_neg (by omega), num_many 116 (by decide) hb', if_neg (flB_neg3 _ _)]
  · have hlen : r.length ≠ 2 := by
      have := congrArg List.length hm
      rw [List.length_map] at this
      omega
    have hlb : ((r.length : Int) != 2) = true := by simp; omega
    rw [hlb, Bool.or_true, if_pos rfl, if_neg]
    intro g
    rcases hb with hb | hb
    · rcases cut_mem hb (t := 116) (by decide) with h | h
      · rw [numOf_none h (by decide)] at g; exact flB_neg2 _ _ g
      · rw [numOf_none h (by decide)] at g; exact flB_neg3 _ _ g
    · rw [hb] at g
      exact flB_neg2 _ _ g
def plB (a b c p : Int) : Bool := flB a b c && decide (-1000 ≤ p ∧ p ≤ wrap64 (wrap64 (wrap64 (a - 1) * c) + 1000))
def atV (a b c p : Int) : Int := if p < 0 then 0 else wrap64 (mn a (wrap64 (wrap64 (Int.tdiv p c) + 1)) * b)
theorem har_eq (k : Nat) (a b c p : Int) : impl_HeightAtRun.f (k + 1) a b c p = some (if plB a b c p = true then (atV a b c p, true) else (0, false)) := by
  simp only [impl_HeightAtRun.f, impl_HeightAtRun.j0, impl_Flight_run.f, isFlight_eq, within_eq, Option.bind_some]
  by_cases h : plB a b c p = true
  · have h' := h
    simp only [plB, Bool.and_eq_true] at h'
    have hb := of_decide_eq_true h'.1
    have hq := of_decide_eq_true h'.2
    simp only [h'.1, hq, and_self, decide_true, Bool.not_true, Bool.false_eq_true, if_false, if_true, h, atV]
    rw [if_neg (show ¬ c = 0 by omega)]
    split <;> rfl
  · have h' := h
    simp only [plB, Bool.and_eq_true, not_and] at h'
    by_cases g : flB a b c = true
    · have := h' g
      simp only [g, h, if_true, Bool.eq_false_iff.mpr this, Bool.not_false, if_false, Bool.false_eq_true]
    · simp [g, h]
namespace WL
def Sq (n : Int) (p : Int × Bool) : Prop := (p.2 = true ∧ 0 ≤ p.1 ∧ p.1 * p.1 = n) ∨ (p = (0, false) ∧ ∀ r, 0 ≤ r → r * r ≠ n)
theorem sq_le {a b : Int} (ha : 0 ≤ a) (h : a ≤ b) : a * a ≤ b * b := Int.mul_le_mul h h ha (by omega)
theorem sq_lt {a b : Int} (ha : 0 ≤ a) (h : a < b) : a * a < b * b := by
  have h1 : (a + 1) * (a + 1) ≤ b * b := sq_le (by omega) (by omega)
  have h2 : (a + 1) * (a + 1) = a * a + 2 * a + 1 := by rw [Int.add_mul, Int.mul_add]; omega
  omega
theorem sq_unique {n : Int} {p q : Int × Bool} (hp : Sq n p) (hq : Sq n q) : p = q := by
  obtain ⟨a, x⟩ := p
  obtain ⟨b, y⟩ := q
  rcases hp with ⟨h1, h2, h3⟩ | ⟨h1, h2⟩ <;> rcases hq with ⟨g1, g2, g3⟩ | ⟨g1, g2⟩
  · simp only at h1 h2 h3 g1 g2 g3
    have : a = b := by
      rcases Int.lt_trichotomy a b with h | h | h
      · have := sq_lt h2 h
        omega
      · exact h
      · have := sq_lt g2 h
        omega
    rw [this, h1, g1]
  · exact absurd h3 (g2 _ h2)
  · exact absurd g3 (h2 _ g2)
  · rw [h1, g1]
theorem spec_l (n : Int) (d : Nat) : ∀ (k : Nat) (lo hi : Int), 0 ≤ lo → lo ≤ hi → hi ≤ 100000 → lo * lo ≤ n → n < (hi + 1) * (hi + 1) → hi - lo ≤ d → d < k → ∃ p, spec_WholeLine.l0 k n lo hi = some p ∧ Sq n p := by
  induction d with
  | zero =>
    intro k lo hi h0 h1 h2 h3 h4 hd hk
    obtain ⟨k, rfl⟩ : ∃ m, k = m + 1 := ⟨k - 1, by omega⟩
    obtain rfl : hi = lo := by omega
    have hb : hi * hi ≤ 100000 * 100000 := sq_le h0 h2
    have hb0 : 0 ≤ hi * hi := Int.mul_nonneg h0 h0
    simp only [spec_WholeLine.l0]
    rw [if_neg (by omega), wr (by omega) (by omega)]
    by_cases e : hi * hi = n
    · rw [if_pos e]
      exact ⟨_, rfl, .inl ⟨rfl, h0, e⟩⟩
    · rw [if_neg e]
      refine ⟨_, rfl, .inr ⟨rfl, fun r hr => ?_⟩⟩
      rcases (show hi < r ∨ r ≤ hi by omega) with h | h
      · have := sq_le (show 0 ≤ hi + 1 by omega) (show hi + 1 ≤ r by omega)
        omega
      · have := sq_le hr h
        omega
  | succ d ih =>
    intro k lo hi h0 h1 h2 h3 h4 hd hk
    by_cases hlt : lo < hi
    · obtain ⟨k, rfl⟩ : ∃ m, k = m + 1 := ⟨k - 1, by omega⟩
      have e1 : wrap64 (lo + hi) = lo + hi := wr (by omega) (by omega)
      have e2 : wrap64 (lo + hi + 1) = lo + hi + 1 := wr (by omega) (by omega)
      have e3 : Int.tdiv (lo + hi + 1) 2 = (lo + hi + 1) / 2 := Int.tdiv_eq_ediv_of_nonneg (by omega)
      have e4 : wrap64 ((lo + hi + 1) / 2) = (lo + hi + 1) / 2 := wr (by omega) (by omega)
      simp only [spec_WholeLine.l0, e1, e2, e3, e4]
      have hm1 : lo < (lo + hi + 1) / 2 := by omega
      have hm2 : (lo + hi + 1) / 2 ≤ hi := by omega
      generalize (lo + hi + 1) / 2 = m at hm1 hm2
      have hb : m * m ≤ 100000 * 100000 := sq_le (by omega) (by omega)
      have hb0 : 0 ≤ m * m := Int.mul_nonneg (by omega) (by omega)
      rw [if_pos hlt, wr (by omega) (by omega), wr (x := m - 1) (by omega) (by omega)]
      by_cases c : m * m ≤ n
      · rw [if_pos c]
        exact ih k m hi (by omega) hm2 h2 c h4 (by omega) (by omega)
      · rw [if_neg c]
        exact ih k lo (m - 1) h0 (by omega) (by omega) h3 (by rw [show m - 1 + 1 = m by omega]; omega) (by omega) (by omega)
    · exact (by
        obtain rfl : hi = lo := by omega
        obtain ⟨k, rfl⟩ : ∃ m, k = m + 1 := ⟨k - 1, by omega⟩
        have hb : hi * hi ≤ 100000 * 100000 := sq_le h0 h2
        have hb0 : 0 ≤ hi * hi := Int.mul_nonneg h0 h0
        simp only [spec_WholeLine.l0]
        rw [if_neg (by omega), wr (by omega) (by omega)]
        by_cases e : hi * hi = n
        · rw [if_pos e]
          exact ⟨_, rfl, .inl ⟨rfl, h0, e⟩⟩
        · rw [if_neg e]
          refine ⟨_, rfl, .inr ⟨rfl, fun r hr => ?_⟩⟩
          rcases (show hi < r ∨ r ≤ hi by omega) with h | h
          · have := sq_le (show 0 ≤ hi + 1 by omega) (show hi + 1 ≤ r by omega)
            omega
          · have := sq_le hr h
            omega)
theorem impl_end (n lo : Int) (k : Nat) (h0 : 0 ≤ lo) (h2 : lo ≤ 100000) (h3 : ∀ r, 0 ≤ r → r < lo → r * r < n) (h4 : n ≤ lo * lo) : ∃ p, impl_WholeLine.l0 (k + 1) n lo lo = some p ∧ Sq n p := by
  have hb : lo * lo ≤ 100000 * 100000 := sq_le h0 h2
  have hb0 : 0 ≤ lo * lo := Int.mul_nonneg h0 h0
  simp only [impl_WholeLine.l0]
  rw [if_neg (by omega), wr (by omega) (by omega)]
  by_cases e : lo * lo = n
  · rw [if_pos e]
    exact ⟨_, rfl, .inl ⟨rfl, h0, e⟩⟩
  · rw [if_neg e]
    refine ⟨_, rfl, .inr ⟨rfl, fun r hr => ?_⟩⟩
    rcases (show r < lo ∨ lo ≤ r by omega) with h | h
    · have := h3 r hr h
      omega
    · have := sq_le h0 h
      omega
theorem impl_l (n : Int) (d : Nat) : ∀ (k : Nat) (lo hi : Int), 0 ≤ lo → lo ≤ hi → hi ≤ 100000 → (∀ r, 0 ≤ r → r < lo → r * r < n) → n ≤ hi * hi → hi - lo ≤ d → d < k → ∃ p, impl_WholeLine.l0 k n lo hi = some p ∧ Sq n p := by
  induction d with
  | zero =>
    intro k lo hi h0 h1 h2 h3 h4 hd hk
    obtain ⟨k, rfl⟩ : ∃ m, k = m + 1 := ⟨k - 1, by omega⟩
    obtain rfl : hi = lo := by omega
    exact impl_end n hi k h0 h2 h3 h4
  | succ d ih =>
    intro k lo hi h0 h1 h2 h3 h4 hd hk
    obtain ⟨k, rfl⟩ : ∃ m, k = m + 1 := ⟨k - 1, by omega⟩
    by_cases hlt : lo < hi
    · have e1 : wrap64 (lo + hi) = lo + hi := wr (by omega) (by omega)
      have e3 : Int.tdiv (lo + hi) 2 = (lo + hi) / 2 := Int.tdiv_eq_ediv_of_nonneg (by omega)
      have e4 : wrap64 ((lo + hi) / 2) = (lo + hi) / 2 := wr (by omega) (by omega)
      simp only [impl_WholeLine.l0, e1, e3, e4]
      have hm1 : lo ≤ (lo + hi) / 2 := by omega
      have hm2 : (lo + hi) / 2 < hi := by omega
      generalize (lo + hi) / 2 = m at hm1 hm2
      have hb : m * m ≤ 100000 * 100000 := sq_le (by omega) (by omega)
      have hb0 : 0 ≤ m * m := Int.mul_nonneg (by omega) (by omega)
      rw [if_pos hlt, wr (by omega) (by omega), wr (x := m + 1) (by omega) (by omega)]
      by_cases c : m * m < n
      · rw [if_pos c]
        refine ih k (m + 1) hi (by omega) (by omega) h2 (fun r hr hm => ?_) h4 (by omega) (by omega)
        have := sq_le hr (show r ≤ m by omega)
        omega
      · rw [if_neg c]
        exact ih k lo m h0 hm1 (by omega) h3 (by omega) (by omega) (by omega)
    · obtain rfl : hi = lo := by omega
      exact impl_end n hi k h0 h2 h3 h4
theorem val (k : Nat) (hk : 100001 ≤ k) (a b c : Int) : ∃ r, spec_WholeLine.f k a b c = some r ∧ impl_WholeLine.f k a b c = some r := by
  simp only [spec_WholeLine.f, impl_WholeLine.f, impl_LineSquare.f, impl_Flight_high.f, impl_Flight_run.f, spec_riSquare.f, riGood_eq, isFlight_eq, Option.bind_some]
  by_cases h1 : flB a b c = true
  · have hb := of_decide_eq_true h1
    simp only [h1, if_true, Option.bind_some]
    have p1 : 0 ≤ a * b := Int.mul_nonneg (by omega) (by omega)
    have p2 : a * b ≤ 100 * 250 := Int.mul_le_mul hb.1.2 hb.2.1.2 (by omega) (by omega)
    have e0 : wrap64 (a - 1) = a - 1 := wr (by omega) (by omega)
    have p3 : 0 ≤ (a - 1) * c := Int.mul_nonneg (by omega) (by omega)
    have p4 : (a - 1) * c ≤ 99 * 500 := Int.mul_le_mul (by omega) hb.2.2.2 (by omega) (by omega)
    rw [e0, wr (x := a * b) (by omega) (by omega), wr (x := (a - 1) * c) (by omega) (by omega)]
    generalize a * b = x at p1 p2
    generalize (a - 1) * c = y at p3 p4
    have q1 : 0 ≤ x * x := Int.mul_nonneg p1 p1
    have q2 : x * x ≤ 25000 * 25000 := sq_le p1 (by omega)
    have q3 : 0 ≤ y * y := Int.mul_nonneg p3 p3
    have q4 : y * y ≤ 49500 * 49500 := sq_le p3 (by omega)
    rw [wr (x := x * x) (by omega) (by omega), wr (x := y * y) (by omega) (by omega), wr (x := x * x + y * y) (by omega) (by omega)]
    generalize hn : x * x + y * y = n
    obtain ⟨p, hp, sp⟩ := spec_l n 100000 k 0 100000 (by omega) (by omega) (by omega) (by omega) (by omega) (by omega) (by omega)
    obtain ⟨q, hq, sq⟩ := impl_l n 100000 k 0 100000 (by omega) (by omega) (by omega) (fun r h0 h1 => by omega) (by omega) (by omega) (by omega)
    exact ⟨p, hp, by rw [hq, sq_unique sq sp]⟩
  · simp [h1]
end WL
theorem least_eq (a b : Int) : spec_l1Least.f a b = some (mn a b) := by
  unfold spec_l1Least.f mn
  split <;> congr 1 <;> (try split) <;> omega
namespace ER
def ev (h r i : Int) : Int := wrap64 (wrap64 (Int.tdiv (wrap64 ((i + 1) * h)) r) - wrap64 (Int.tdiv (wrap64 (i * h)) r))
def E (h r : Int) : Nat → Int → List Int
  | 0, _ => []
  | d + 1, i => ev h r i :: E h r d (i + 1)
theorem E_length (h r : Int) (d : Nat) : ∀ i, (E h r d i).length = d := by
  induction d with
  | zero => intro i; rfl
  | succ d ih => intro i; simp only [E, List.length_cons, ih]
theorem impl_l (h r : Int) (hr : 1 ≤ r) (hr2 : r ≤ 1000) (d : Nat) : ∀ (k : Nat) (i : Int) (acc : List Int), 0 ≤ i → i + d = r → d < k → acc.length + d ≤ 10000 → impl_EvenRisers.l0 k h r acc r i = some (acc ++ E h r d i, true) := by
  induction d with
  | zero =>
    intro k i acc h1 h2 hk hl
    obtain ⟨k, rfl⟩ : ∃ m, k = m + 1 := ⟨k - 1, by omega⟩
    simp only [impl_EvenRisers.l0, E, List.append_nil]
    rw [if_neg (by omega)]
  | succ d ih =>
    intro k i acc h1 h2 hk hl
    obtain ⟨k, rfl⟩ : ∃ m, k = m + 1 := ⟨k - 1, by omega⟩
    have ew : wrap64 (i + 1) = i + 1 := wr (by omega) (by omega)
    simp only [impl_EvenRisers.l0, ew, E]
    rw [if_pos (by omega), if_neg (by omega), if_pos (by omega), ih k (i + 1) _ (by omega) (by omega) (by omega) (by simp only [List.length_append, List.length_singleton]; omega)]
    simp [ev]
theorem spec_l (h r : Int) (hr : 1 ≤ r) (hr2 : r ≤ 1000) (d : Nat) : ∀ (k : Nat) (i : Int) (acc : List Int), 0 ≤ i → i + d = r → d < k → acc.length + d ≤ 10000 → spec_EvenRisers.l0 k h r acc (i + 1) = some (acc ++ E h r d i, true) := by
  induction d with
  | zero =>
    intro k i acc h1 h2 hk hl
    obtain ⟨k, rfl⟩ : ∃ m, k = m + 1 := ⟨k - 1, by omega⟩
    simp only [spec_EvenRisers.l0, E, List.append_nil]
    rw [if_neg (by omega)]
  | succ d ih =>
    intro k i acc h1 h2 hk hl
    obtain ⟨k, rfl⟩ : ∃ m, k = m + 1 := ⟨k - 1, by omega⟩
    have ew : wrap64 (i + 1 + 1) = i + 1 + 1 := wr (by omega) (by omega)
    have ew2 : wrap64 (i + 1 - 1) = i := by rw [wr (by omega) (by omega)]; omega
    simp only [spec_EvenRisers.l0, ew, ew2, E]
    rw [if_pos (by omega), if_neg (by omega), if_pos (by omega), ih k (i + 1) _ (by omega) (by omega) (by omega) (by simp only [List.length_append, List.length_singleton]; omega)]
    simp [ev]
theorem val (h r : Int) : ∃ (l : List Int) (b : Bool), l.length ≤ 1000 ∧ ((b = false ∧ l = []) ∨ (b = true ∧ (1 ≤ h ∧ h ≤ 6000) ∧ (1 ≤ r ∧ r ≤ 100 ∧ r ≤ h) ∧ l = E h r r.toNat 0)) ∧ ∀ k, 200 ≤ k → spec_EvenRisers.f k h r = some (l, b) ∧ impl_EvenRisers.f k h r = some (l, b) := by
  by_cases c1 : 1 ≤ h ∧ h ≤ 6000
  · by_cases c2 : 1 ≤ r ∧ r ≤ mn 100 h
    · have hm : mn 100 h ≤ 100 ∧ mn 100 h ≤ h := by unfold mn; split <;> omega
      refine ⟨E h r r.toNat 0, true, by rw [E_length]; omega, .inr ⟨rfl, c1, ⟨c2.1, by omega, by omega⟩, rfl⟩, fun k hk => ?_⟩
      obtain ⟨k, rfl⟩ : ∃ m, k = m + 1 := ⟨k - 1, by omega⟩
      have e1 := spec_l h r c2.1 (by omega) r.toNat k 0 [] (by omega) (by omega) (by omega) (by simp; omega)
      have e2 := impl_l h r c2.1 (by omega) r.toNat k 0 [] (by omega) (by omega) (by omega) (by simp; omega)
      simp only [List.nil_append, Int.zero_add] at e1 e2
      constructor
      · simp only [spec_EvenRisers.f, spec_EvenRisers.j0, spec_riHigh.f, in_eq, least_eq, Option.bind_some, c1, c2, and_self, decide_true, if_true, Bool.not_true, Bool.false_eq_true, if_false, e1]
      · simp only [impl_EvenRisers.f, impl_EvenRisers.j0, impl_isHigh.f, within_eq, Option.bind_some, c1, c2, and_self, decide_true, if_true, Bool.not_true, Bool.false_eq_true, if_false, e2]
    · refine ⟨[], false, by simp, .inl ⟨rfl, rfl⟩, fun k hk => ?_⟩
      obtain ⟨k, rfl⟩ : ∃ m, k = m + 1 := ⟨k - 1, by omega⟩
      constructor
      · simp only [spec_EvenRisers.f, spec_EvenRisers.j0, spec_riHigh.f, in_eq, least_eq, Option.bind_some, c1, c2, and_self, decide_true, decide_false, if_true, Bool.not_false]
      · simp only [impl_EvenRisers.f, impl_EvenRisers.j0, impl_isHigh.f, within_eq, Option.bind_some, c1, c2, and_self, decide_true, decide_false, if_true, Bool.not_false]
  · refine ⟨[], false, by simp, .inl ⟨rfl, rfl⟩, fun k hk => ?_⟩
    obtain ⟨k, rfl⟩ : ∃ m, k = m + 1 := ⟨k - 1, by omega⟩
    constructor
    · simp [spec_EvenRisers.f, spec_EvenRisers.j0, spec_riHigh.f, in_eq, c1]
    · simp [impl_EvenRisers.f, impl_EvenRisers.j0, impl_isHigh.f, within_eq, c1]
end ER
namespace FF
def tr (h s n : Int) : Int := wrap64 (s - wrap64 (2 * wrap64 (Int.tdiv h n)))
def opt (h run s n : Int) : Option S32 := if flB n (wrap64 (Int.tdiv h n)) (tr h s n) = true ∧ wrap64 (wrap64 (n - 1) * tr h s n) ≤ run then some (⟨n, wrap64 (Int.tdiv h n), tr h s n⟩ : S32) else none
theorem opt_yes {h run s n : Int} (c1 : flB n (wrap64 (Int.tdiv h n)) (tr h s n) = true) (c2 : wrap64 (wrap64 (n - 1) * tr h s n) ≤ run) : opt h run s n = some (⟨n, wrap64 (Int.tdiv h n), tr h s n⟩ : S32) := by
  unfold opt
  rw [if_pos ⟨c1, c2⟩]
theorem opt_no {h run s n : Int} (c : ¬ (flB n (wrap64 (Int.tdiv h n)) (tr h s n) = true ∧ wrap64 (wrap64 (n - 1) * tr h s n) ≤ run)) : opt h run s n = none := by
  unfold opt
  rw [if_neg c]
theorem spec_l (h run s : Int) (h1 : 1 ≤ h) (h2 : h ≤ 6000) (d : Nat) : ∀ (k : Nat) (i : Int) (acc : List S32), 1 ≤ i → i + d = 101 → d < k → acc.length + d < 1000 → spec_FlightsFor.l0 k h run s acc i = some (acc ++ (R h 1 250 d i).filterMap (opt h run s), true) := by
  induction d with
  | zero =>
    intro k i acc hi hd hk hl
    obtain ⟨k, rfl⟩ : ∃ m, k = m + 1 := ⟨k - 1, by omega⟩
    simp only [spec_FlightsFor.l0, R, List.filterMap_nil, List.append_nil]
    rw [if_neg (by omega)]
  | succ d ih =>
    intro k i acc hi hd hk hl
    obtain ⟨k, rfl⟩ : ∃ m, k = m + 1 := ⟨k - 1, by omega⟩
    have ew : wrap64 (i + 1) = i + 1 := wr (by omega) (by omega)
    simp only [spec_FlightsFor.l0, riGood_eq, Option.bind_some, ew]
    rw [if_pos (show i ≤ 100 by omega), if_neg (show ¬ i = 0 by omega)]
    by_cases c : Int.tmod h i = 0
    · rw [if_pos c]
      have fc := div_facts h i h1 h2 hi c
      by_cases c1 : flB i (wrap64 (Int.tdiv h i)) (tr h s i) = true
      · have hb := of_decide_eq_true c1
        rw [if_pos (show flB i (wrap64 (Int.tdiv h i)) (wrap64 (s - wrap64 (2 * wrap64 (Int.tdiv h i)))) = true from c1), R_yes ⟨c, hb.2.1⟩]
        by_cases c2 : wrap64 (wrap64 (i - 1) * tr h s i) ≤ run
        · rw [if_pos (show wrap64 (wrap64 (i - 1) * wrap64 (s - wrap64 (2 * wrap64 (Int.tdiv h i)))) ≤ run from c2), if_pos (by omega), List.filterMap_cons_some (opt_yes c1 c2), ih k (i + 1) _ (by omega) (by omega) (by omega) (by simp only [List.length_append, List.length_singleton]; omega)]
          simp [tr]
        · rw [if_neg (show ¬ wrap64 (wrap64 (i - 1) * wrap64 (s - wrap64 (2 * wrap64 (Int.tdiv h i)))) ≤ run from c2), List.filterMap_cons_none (opt_no (fun z => c2 z.2)), ih k (i + 1) _ (by omega) (by omega) (by omega) (by omega)]
      · rw [if_neg (show ¬ flB i (wrap64 (Int.tdiv h i)) (wrap64 (s - wrap64 (2 * wrap64 (Int.tdiv h i)))) = true from c1), ih k (i + 1) _ (by omega) (by omega) (by omega) (by omega)]
        by_cases g : 1 ≤ wrap64 (Int.tdiv h i) ∧ wrap64 (Int.tdiv h i) ≤ 250
        · rw [R_yes ⟨c, g⟩, List.filterMap_cons_none (opt_no (fun z => c1 z.1))]
        · rw [R_no (fun z => g z.2)]
    · rw [if_neg c, R_no (fun z => c z.1), ih k (i + 1) _ (by omega) (by omega) (by omega) (by omega)]
theorem impl_l (h run s : Int) (l : List Int) (hl : ∀ n ∈ l, 1 ≤ n) (hn : l.length ≤ 1000) (d : Nat) : ∀ (k : Nat) (i : Nat) (acc : List S32), i + d = l.length → d < k → acc.length + d < 10000 → impl_FlightsFor.l0 k h run s acc l (l.length : Int) (i : Int) = some (acc ++ (l.drop i).filterMap (opt h run s), true) := by
  induction d with
  | zero =>
    intro k i acc hd hk ha
    obtain ⟨k, rfl⟩ : ∃ m, k = m + 1 := ⟨k - 1, by omega⟩
    simp only [impl_FlightsFor.l0]
    rw [if_neg (by omega), List.drop_of_length_le (by omega)]
    simp
  | succ d ih =>
    intro k i acc hd hk ha
    obtain ⟨k, rfl⟩ : ∃ m, k = m + 1 := ⟨k - 1, by omega⟩
    have ew : wrap64 ((i : Int) + 1) = ((i + 1 : Nat) : Int) := by rw [wr (by omega) (by omega)]; omega
    have hi : i < l.length := by omega
    have er : rd l (i : Int) = l[i] := by simp [rd, List.getD, hi]
    have hm := hl l[i] (List.getElem_mem hi)
    simp only [impl_FlightsFor.l0, impl_Flight_run.f, isFlight_eq, Option.bind_some, ew, er]
    rw [if_pos (by omega), if_pos (by omega), if_pos (by omega), if_neg (by omega), List.drop_eq_getElem_cons hi]
    by_cases c1 : flB l[i] (wrap64 (Int.tdiv h l[i])) (tr h s l[i]) = true
    · rw [if_pos (show flB l[i] (wrap64 (Int.tdiv h l[i])) (wrap64 (s - wrap64 (2 * wrap64 (Int.tdiv h l[i])))) = true from c1)]
      by_cases c2 : wrap64 (wrap64 (l[i] - 1) * tr h s l[i]) ≤ run
      · rw [if_pos (show wrap64 (wrap64 (l[i] - 1) * wrap64 (s - wrap64 (2 * wrap64 (Int.tdiv h l[i])))) ≤ run from c2), if_pos (by omega), List.filterMap_cons_some (opt_yes c1 c2), ih k (i + 1) _ (by omega) (by omega) (by simp only [List.length_append, List.length_singleton]; omega)]
        simp [tr]
      · rw [if_neg (show ¬ wrap64 (wrap64 (l[i] - 1) * wrap64 (s - wrap64 (2 * wrap64 (Int.tdiv h l[i])))) ≤ run from c2), List.filterMap_cons_none (opt_no (fun z => c2 z.2)), ih k (i + 1) _ (by omega) (by omega) (by omega)]
    · rw [if_neg (show ¬ flB l[i] (wrap64 (Int.tdiv h l[i])) (wrap64 (s - wrap64 (2 * wrap64 (Int.tdiv h l[i])))) = true from c1), List.filterMap_cons_none (opt_no (fun z => c1 z.1)), ih k (i + 1) _ (by omega) (by omega) (by omega)]
theorem val (h run s : Int) : ∃ (l : List S32) (b : Bool), l.length ≤ 1000 ∧ (l = [] ∨ ((1 ≤ h ∧ h ≤ 6000) ∧ (1 ≤ s ∧ s ≤ 2000) ∧ l = (R h 1 250 100 1).filterMap (opt h run s))) ∧ ∀ k, 300 ≤ k → spec_FlightsFor.f k h run s = some (l, b) ∧ impl_FlightsFor.f k h run s = some (l, b) := by
  by_cases c1 : 1 ≤ h ∧ h ≤ 6000
  · by_cases c2 : 0 ≤ run ∧ run ≤ 50000
    · by_cases c3 : 1 ≤ s ∧ s ≤ 2000
      · have hlen := R_length h 1 250 100 1
        have hl2 := List.length_filterMap_le (opt h run s) (R h 1 250 100 1)
        refine ⟨(R h 1 250 100 1).filterMap (opt h run s), true, by omega, .inr ⟨c1, c3, rfl⟩, fun k hk => ?_⟩
        obtain ⟨k, rfl⟩ : ∃ m, k = m + 1 := ⟨k - 1, by omega⟩
        have e1 := spec_l h run s c1.1 c1.2 100 k 1 [] (by omega) (by omega) (by omega) (by simp)
        have e2 := impl_l h run s (R h 1 250 100 1) (fun n hn => (R_mem h 1 250 100 1 n hn).1) (by omega) (R h 1 250 100 1).length k 0 [] (by omega) (by omega) (by simp; omega)
        simp only [List.nil_append, List.drop_zero, Int.natCast_zero] at e1 e2
        constructor
        · simp only [spec_FlightsFor.f, spec_FlightsFor.j0, spec_riHigh.f, in_eq, Option.bind_some, c1, c2, c3, and_self, decide_true, if_true, Bool.not_true, Bool.false_eq_true, if_false, e1]
        · have a1 : wrB h 1 250 = true := by simp [wrB, c1]
          have e3 := impl_WR (k + 1) (by omega) h 1 250
          rw [if_pos a1] at e3
          try simp at e2
          simp [impl_FlightsFor.f, impl_FlightsFor.j0, impl_isSum.f, within_eq, c2, c3, e3, e2]
      · refine ⟨[], false, by simp, .inl rfl, fun k hk => ?_⟩
        have a1 : wrB h 1 250 = true := by simp [wrB, c1]
        have e3 := impl_WR k (by omega) h 1 250
        rw [if_pos a1] at e3
        obtain ⟨k, rfl⟩ : ∃ m, k = m + 1 := ⟨k - 1, by omega⟩
        constructor
        · simp [spec_FlightsFor.f, spec_FlightsFor.j0, spec_riHigh.f, in_eq, c1, c2, c3]
        · simp [impl_FlightsFor.f, impl_FlightsFor.j0, impl_isSum.f, within_eq, c2, c3, e3]
    · refine ⟨[], false, by simp, .inl rfl, fun k hk => ?_⟩
      have a1 : wrB h 1 250 = true := by simp [wrB, c1]
      have e3 := impl_WR k (by omega) h 1 250
      rw [if_pos a1] at e3
      obtain ⟨k, rfl⟩ : ∃ m, k = m + 1 := ⟨k - 1, by omega⟩
      constructor
      · simp [spec_FlightsFor.f, spec_FlightsFor.j0, spec_riHigh.f, in_eq, c1, c2]
      · simp [impl_FlightsFor.f, impl_FlightsFor.j0, impl_isSum.f, within_eq, c2, e3]
  · refine ⟨[], false, by simp, .inl rfl, fun k hk => ?_⟩
    have a1 : ¬ wrB h 1 250 = true := by simp [wrB]; omega
    have e3 := impl_WR k (by omega) h 1 250
    rw [if_neg a1] at e3
    obtain ⟨k, rfl⟩ : ∃ m, k = m + 1 := ⟨k - 1, by omega⟩
    constructor
    · simp [spec_FlightsFor.f, spec_FlightsFor.j0, spec_riHigh.f, in_eq, c1]
    · simp [impl_FlightsFor.f, impl_FlightsFor.j0, impl_isSum.f, within_eq, e3]
end FF
theorem flB_b {a b c : Int} (h : flB a b c = true) : 1 ≤ a ∧ a ≤ 100 ∧ 1 ≤ b ∧ b ≤ 250 ∧ 1 ≤ c ∧ c ≤ 500 := by
  have := of_decide_eq_true h
  omega
theorem heightOf_i (a b c : Int) : impl_HeightOf.f a b c = some (if flB a b c = true then (wrap64 (a * b), true) else (0, false)) := by
  simp only [impl_HeightOf.f, isFlight_eq, impl_Flight_high.f, Option.bind_some]
  split <;> rfl
theorem heightOf_s (a b c : Int) : spec_HeightOf.f a b c = some (if flB a b c = true then (wrap64 (a * b), true) else (0, false)) := by
  simp only [spec_HeightOf.f, riGood_eq, Option.bind_some]
  split <;> rfl
theorem runOf_i (a b c : Int) : impl_RunOf.f a b c = some (if flB a b c = true then (wrap64 (wrap64 (a - 1) * c), true) else (0, false)) := by
  simp only [impl_RunOf.f, isFlight_eq, impl_Flight_run.f, Option.bind_some]
  split <;> rfl
theorem runOf_s (a b c : Int) : spec_RunOf.f a b c = some (if flB a b c = true then (wrap64 (wrap64 (a - 1) * c), true) else (0, false)) := by
  simp only [spec_RunOf.f, riGood_eq, Option.bind_some]
  split <;> rfl
theorem paceSum_i (a b c : Int) : impl_PaceSum.f a b c = some (if flB a b c = true then (wrap64 (wrap64 (2 * b) + c), true) else (0, false)) := by
  simp only [impl_PaceSum.f, isFlight_eq, Option.bind_some]
  split <;> rfl
theorem paceSum_s (a b c : Int) : spec_PaceSum.f a b c = some (if flB a b c = true then (wrap64 (wrap64 (2 * b) + c), true) else (0, false)) := by
  simp only [spec_PaceSum.f, riGood_eq, Option.bind_some]
  split <;> rfl
theorem slopeOf_i (k : Nat) (hk : 501 ≤ k) (a b c : Int) : impl_SlopeOf.f k a b c = some (if flB a b c = true then ((lowP b c).1, (lowP b c).2, true) else (0, 0, false)) := by
  simp only [impl_SlopeOf.f, isFlight_eq, Option.bind_some]
  by_cases h : flB a b c = true
  · have hb := flB_b h
    rw [if_pos h, if_pos h, part_val k b c (by omega) (by omega) (by omega)]
    rfl
  · rw [if_neg h, if_neg h]
theorem slopeOf_s (k : Nat) (hk : 501 ≤ k) (a b c : Int) : spec_SlopeOf.f k a b c = some (if flB a b c = true then ((lowP b c).1, (lowP b c).2, true) else (0, 0, false)) := by
  simp only [spec_SlopeOf.f, riGood_eq, Option.bind_some]
  by_cases h : flB a b c = true
  · have hb := flB_b h
    rw [if_pos h, if_pos h, moLow_val k b c (by omega) (by omega) (by omega)]
    rfl
  · rw [if_neg h, if_neg h]
def sqV (a b c : Int) : Int := wrap64 (wrap64 (wrap64 (a * b) * wrap64 (a * b)) + wrap64 (wrap64 (wrap64 (a - 1) * c) * wrap64 (wrap64 (a - 1) * c)))
theorem lineSquare_i (a b c : Int) : impl_LineSquare.f a b c = some (if flB a b c = true then (sqV a b c, true) else (0, false)) := by
  simp only [impl_LineSquare.f, isFlight_eq, impl_Flight_high.f, impl_Flight_run.f, Option.bind_some]
  split <;> rfl
theorem lineSquare_s (a b c : Int) : spec_LineSquare.f a b c = some (if flB a b c = true then (sqV a b c, true) else (0, false)) := by
  simp only [spec_LineSquare.f, riGood_eq, spec_riSquare.f, Option.bind_some]
  split <;> rfl
theorem wholeLine (k : Nat) (hk : 100001 ≤ k) (a b c : Int) : ∃ r, spec_WholeLine.f k a b c = some r ∧ impl_WholeLine.f k a b c = some r ∧ (r.2 = true → flB a b c = true ∧ wrap64 (r.1 * r.1) = sqV a b c) := by
  simp only [spec_WholeLine.f, impl_WholeLine.f, lineSquare_i, spec_riSquare.f, riGood_eq, Option.bind_some]
  by_cases h1 : flB a b c = true
  · have hb := flB_b h1
    simp only [h1, if_true]
    have p1 : 0 ≤ a * b := Int.mul_nonneg (by omega) (by omega)
    have p2 : a * b ≤ 100 * 250 := Int.mul_le_mul hb.2.1 hb.2.2.2.1 (by omega) (by omega)
    have e0 : wrap64 (a - 1) = a - 1 := wr (by omega) (by omega)
    have p3 : 0 ≤ (a - 1) * c := Int.mul_nonneg (by omega) (by omega)
    have p4 : (a - 1) * c ≤ 99 * 500 := Int.mul_le_mul (by omega) hb.2.2.2.2.2 (by omega) (by omega)
    unfold sqV
    rw [e0, wr (x := a * b) (by omega) (by omega), wr (x := (a - 1) * c) (by omega) (by omega)]
    generalize a * b = x at p1 p2
    generalize (a - 1) * c = y at p3 p4
    have q1 : 0 ≤ x * x := Int.mul_nonneg p1 p1
    have q2 : x * x ≤ 25000 * 25000 := WL.sq_le p1 (by omega)
    have q3 : 0 ≤ y * y := Int.mul_nonneg p3 p3
    have q4 : y * y ≤ 49500 * 49500 := WL.sq_le p3 (by omega)
    rw [wr (x := x * x) (by omega) (by omega), wr (x := y * y) (by omega) (by omega), wr (x := x * x + y * y) (by omega) (by omega)]
    generalize hn : x * x + y * y = n
    obtain ⟨p, hp, sp⟩ := WL.spec_l n 100000 k 0 100000 (by omega) (by omega) (by omega) (by omega) (by omega) (by omega) (by omega)
    obtain ⟨q, hq, sq⟩ := WL.impl_l n 100000 k 0 100000 (by omega) (by omega) (by omega) (fun r h0 h1 => by omega) (by omega) (by omega) (by omega)
    refine ⟨p, hp, by rw [hq, WL.sq_unique sq sp], fun ht => ⟨trivial, ?_⟩⟩
    rcases sp with ⟨_, _, e⟩ | ⟨e, _⟩
    · rw [e]; exact wr (by omega) (by omega)
    · rw [e] at ht; cases ht
  · refine ⟨(0, false), ?_, ?_, fun h => by cases h⟩ <;> simp [h1]
section Rf1
open Go.Lib
theorem flTxt_list (a b c : Int) : (flTxt a b c).data.toList = itoa a ++ 114 :: (itoa b ++ 116 :: itoa c) := by
  unfold flTxt nm
  simp
theorem parse_fl {a b c : Int} (h : flB a b c = true) : impl_ParseFlight.f (flTxt a b c) = some (a, b, c, true) := by
  have hb := flB_b h
  have s1 := nm_le' a (by omega) (by omega)
  have s2 := nm_le' b (by omega) (by omega)
  have s3 := nm_le' c (by omega) (by omega)
  have o1 : (⟨#[114]⟩ : ByteArray).size = 1 := rfl
  have o2 : (⟨#[116]⟩ : ByteArray).size = 1 := rfl
  have hsz : (flTxt a b c).size ≤ 1048576 := by
    unfold flTxt
    simp only [ByteArray.size_append]
    omega
  rw [parseFlight_impl _ hsz, flTxt_list]
  unfold prF
  have n1 : (114 : UInt8) ∉ itoa a := fun hm => by
    have := itoa_dig (by omega) 114 hm
    have z : (114 : UInt8).toNat = 114 := rfl
    omega
  have n2 : (116 : UInt8) ∉ itoa b := fun hm => by
    have := itoa_dig (by omega) 116 hm
    have z : (116 : UInt8).toNat = 116 := rfl
    omega
  rw [cut_hit 114 _ _ n1]
  simp only
  rw [cut_hit 116 _ _ n2]
  simp only
  rw [numOf_itoa (by omega) (by omega), numOf_itoa (by omega) (by omega), numOf_itoa (by omega) (by omega), if_pos h]
theorem num_back {l : List UInt8} (h : 0 ≤ numOf l) : itoa (numOf l) = l := by
  rcases numOf_cases l with h' | ⟨n, _, e, hl⟩
  · omega
  · rw [e, itoa_dec, ← hl]
theorem prF_back (s : ByteArray) (h : (prF s.data.toList).2.2.2 = true) : flB (prF s.data.toList).1 (prF s.data.toList).2.1 (prF s.data.toList).2.2.1 = true ∧ flTxt (prF s.data.toList).1 (prF s.data.toList).2.1 (prF s.data.toList).2.2.1 = s := by
  generalize hl : s.data.toList = l at h ⊢
  by_cases c : flB (numOf (cut l [114]).1) (numOf (cut (cut l [114]).2.1 [116]).1) (numOf (cut (cut l [114]).2.1 [116]).2.1) = true
  · have e : prF l = (numOf (cut l [114]).1, numOf (cut (cut l [114]).2.1 [116]).1, numOf (cut (cut l [114]).2.1 [116]).2.1, true) := by unfold prF; rw [if_pos c]
    rw [e]
    refine ⟨c, ?_⟩
    simp only
    have hb := flB_b c
    have key : (flTxt (numOf (cut l [114]).1) (numOf (cut (cut l [114]).2.1 [116]).1) (numOf (cut (cut l [114]).2.1 [116]).2.1)).data.toList = l := by
      rw [flTxt_list, num_back (by omega), num_back (by omega), num_back (by omega)]
      by_cases m1 : (114 : UInt8) ∈ l
      · obtain ⟨x, y, rfl, hx⟩ := mem_parts 114 l m1
        rw [cut_hit 114 x y hx] at c ⊢
        simp only at c ⊢
        by_cases m2 : (116 : UInt8) ∈ y
        · obtain ⟨u, v, rfl, hu⟩ := mem_parts 116 y m2
          rw [cut_hit 116 u v hu]
        · rw [cut_miss 116 y m2] at c
          simp only at c
          rw [numOf_nil] at c
          exact absurd c (flB_neg3 _ _)
      · rw [cut_miss 114 l m1] at c
        simp only at c
        rw [cut_miss 116 [] (by simp)] at c
        simp only at c
        rw [numOf_nil] at c
        exact absurd c (flB_neg3 _ _)
    apply ByteArray.ext
    apply Array.toList_inj.1
    rw [key, hl]
  · have e : prF l = (0, 0, 0, false) := by unfold prF; rw [if_neg c]
    rw [e] at h
    cases h
end Rf1
def qE (h r i : Int) : Int := i * h / r
theorem ev_q (h r i : Int) (h1 : 1 ≤ h ∧ h ≤ 6000) (h2 : 1 ≤ r ∧ r ≤ 100 ∧ r ≤ h) (i0 : 0 ≤ i) (i1 : i < r) : ER.ev h r i = qE h r (i + 1) - qE h r i := by
  have p0 : 0 ≤ i * h := Int.mul_nonneg i0 (by omega)
  have p1 : (i + 1) * h ≤ 100 * 6000 := Int.mul_le_mul (by omega) h1.2 (by omega) (by omega)
  have p2 : 0 ≤ (i + 1) * h := Int.mul_nonneg (by omega) (by omega)
  have p3 : i * h ≤ 100 * 6000 := Int.mul_le_mul (by omega) h1.2 (by omega) (by omega)
  unfold ER.ev qE
  rw [wr (x := (i + 1) * h) (by omega) (by omega), wr (x := i * h) (by omega) (by omega), Int.tdiv_eq_ediv_of_nonneg p2, Int.tdiv_eq_ediv_of_nonneg p0]
  have d0 := Int.ediv_nonneg p0 (show 0 ≤ r by omega)
  have d1 := Int.ediv_nonneg p2 (show 0 ≤ r by omega)
  have d2 : i * h / r ≤ i * h := Int.ediv_le_self _ p0
  have d3 : (i + 1) * h / r ≤ (i + 1) * h := Int.ediv_le_self _ p2
  generalize i * h / r = x at *
  generalize (i + 1) * h / r = y at *
  rw [wr (x := y) (by omega) (by omega), wr (x := x) (by omega) (by omega), wr (by omega) (by omega)]
theorem mulm {r x y : Int} (hr : 0 ≤ r) (h : x ≤ y) : r * x ≤ r * y := Int.mul_le_mul_of_nonneg_left h hr
theorem ev_val (h r i : Int) (h1 : 1 ≤ h ∧ h ≤ 6000) (h2 : 1 ≤ r ∧ r ≤ 100 ∧ r ≤ h) (i0 : 0 ≤ i) (i1 : i < r) : 1 ≤ h / r ∧ h / r ≤ 6000 ∧ (ER.ev h r i = h / r ∨ ER.ev h r i = h / r + 1) := by
  rw [ev_q h r i h1 h2 i0 i1]
  unfold qE
  have a1 := Int.mul_ediv_add_emod h r
  have a2 := Int.mul_ediv_add_emod (i * h) r
  have a3 := Int.mul_ediv_add_emod ((i + 1) * h) r
  have b1 := Int.emod_nonneg h (show r ≠ 0 by omega)
  have b2 := Int.emod_nonneg (i * h) (show r ≠ 0 by omega)
  have b3 := Int.emod_nonneg ((i + 1) * h) (show r ≠ 0 by omega)
  have c1 := Int.emod_lt_of_pos h (show 0 < r by omega)
  have c2 := Int.emod_lt_of_pos (i * h) (show 0 < r by omega)
  have c3 := Int.emod_lt_of_pos ((i + 1) * h) (show 0 < r by omega)
  have e : (i + 1) * h = i * h + h := by rw [Int.add_mul, Int.one_mul]
  have d1 : h / r ≤ h := Int.ediv_le_self _ (by omega)
  generalize h % r = m1 at *
  generalize i * h % r = m2 at *
  generalize (i + 1) * h % r = m3 at *
  generalize h / r = s at *
  generalize i * h / r = x at *
  generalize (i + 1) * h / r = y at *
  generalize i * h = u at *
  rw [e] at a3
  have s1 : 1 ≤ s := by
    rcases (show s ≤ 0 ∨ 1 ≤ s by omega) with z | z
    · have := mulm (show 0 ≤ r by omega) z
      rw [Int.mul_zero] at this
      omega
    · exact z
  refine ⟨s1, by omega, ?_⟩
  have hy : r * (y - x - s) = m1 + m2 - m3 := by rw [Int.mul_sub, Int.mul_sub]; omega
  rcases (show y - x - s ≤ -1 ∨ y - x - s = 0 ∨ y - x - s = 1 ∨ 2 ≤ y - x - s by omega) with z | z | z | z
  · have := mulm (show 0 ≤ r by omega) z
    rw [hy, Int.mul_neg, Int.mul_one] at this
    omega
  · left; omega
  · right; omega
  · have := mulm (show 0 ≤ r by omega) z
    rw [hy] at this
    omega
theorem E_take (h r : Int) : ∀ (d j : Nat) (i : Int), j ≤ d → (ER.E h r d i).take j = ER.E h r j i
  | _, 0, _, _ => rfl
  | d + 1, j + 1, i, hj => by
    simp only [ER.E, List.take_succ_cons]
    rw [E_take h r d j (i + 1) (by omega)]
theorem E_rd (h r : Int) : ∀ (d j : Nat) (i : Int), j < d → rd (ER.E h r d i) (j : Int) = ER.ev h r (i + j)
  | d + 1, 0, i, _ => by simp [ER.E, rd, List.getD]
  | d + 1, j + 1, i, hj => by
    have := E_rd h r d j (i + 1) (by omega)
    simp only [rd, Int.toNat_natCast] at this ⊢
    simp only [ER.E, List.getD_cons_succ]
    rw [this]
    congr 1
    omega
theorem E_sum (h r : Int) (h1 : 1 ≤ h ∧ h ≤ 6000) (h2 : 1 ≤ r ∧ r ≤ 100 ∧ r ≤ h) : ∀ (d : Nat) (i : Int), 0 ≤ i → i + d ≤ r → (ER.E h r d i).sum = qE h r (i + d) - qE h r i
  | 0, i, _, _ => by simp [ER.E]
  | d + 1, i, i0, i1 => by
    simp only [ER.E, List.sum_cons]
    rw [E_sum h r h1 h2 d (i + 1) (by omega) (by omega), ev_q h r i h1 h2 i0 (by omega), show i + 1 + (d : Int) = i + ((d + 1 : Nat) : Int) by omega]
    omega
theorem E_bnd (h r : Int) (h1 : 1 ≤ h ∧ h ≤ 6000) (h2 : 1 ≤ r ∧ r ≤ 100 ∧ r ≤ h) : ∀ (d : Nat) (i : Int), 0 ≤ i → i + d ≤ r → ∀ x ∈ ER.E h r d i, 0 ≤ x ∧ x ≤ 10000
  | 0, i, _, _, x, hx => by simp [ER.E] at hx
  | d + 1, i, i0, i1, x, hx => by
    simp only [ER.E, List.mem_cons] at hx
    rcases hx with rfl | hx
    · have := ev_val h r i h1 h2 i0 (by omega)
      omega
    · exact E_bnd h r h1 h2 d (i + 1) (by omega) (by omega) x hx
theorem lSum_l (l : List Int) (hl : l.length ≤ 1000) (hb : ∀ x ∈ l, 0 ≤ x ∧ x ≤ 10000) : ∀ (n i k : Nat) (acc : Int), i + n = l.length → n < k → 0 ≤ acc → acc ≤ 10000 * i → laws_lSum.l0 k acc l (l.length : Int) (i : Int) = some (acc + (l.drop i).sum)
  | 0, i, k, acc, hi, hk, _, _ => by
    obtain ⟨k, rfl⟩ : ∃ m, k = m + 1 := ⟨k - 1, by omega⟩
    simp only [laws_lSum.l0]
    rw [if_neg (by omega), List.drop_of_length_le (by omega)]
    simp
  | n + 1, i, k, acc, hi, hk, h0, h1 => by
    obtain ⟨k, rfl⟩ : ∃ m, k = m + 1 := ⟨k - 1, by omega⟩
    have ew : wrap64 ((i : Int) + 1) = ((i + 1 : Nat) : Int) := by unfold wrap64; omega
    have h : i < l.length := by omega
    have hx := hb l[i] (List.getElem_mem h)
    simp only [laws_lSum.l0, ew, rdn l i h]
    rw [if_pos (by omega), if_pos (by omega), if_pos (by omega), wr (by omega) (by omega), lSum_l l hl hb n (i + 1) k _ (by omega) (by omega) (by omega) (by omega), List.drop_eq_getElem_cons h, List.sum_cons]
    congr 1
    omega
theorem lSum_val (l : List Int) (hl : l.length ≤ 1000) (hb : ∀ x ∈ l, 0 ≤ x ∧ x ≤ 10000) (k : Nat) (hk : 1001 ≤ k) : laws_lSum.f k l = some l.sum := by
  unfold laws_lSum.f
  have := lSum_l l hl hb l.length 0 k 0 (by omega) (by omega) (by omega) (by omega)
  simpa using this
theorem R_sorted (h lo most : Int) : ∀ (d : Nat) (i : Int), (R h lo most d i).Pairwise (· < ·)
  | 0, i => List.Pairwise.nil
  | d + 1, i => by
    simp only [R]
    split
    · refine List.Pairwise.cons (fun n hn => ?_) (R_sorted h lo most d (i + 1))
      have := R_mem h lo most d (i + 1) n hn
      omega
    · exact R_sorted h lo most d (i + 1)
theorem R_iff (h lo most n : Int) : ∀ (d : Nat) (i : Int), n ∈ R h lo most d i ↔ i ≤ n ∧ n < i + d ∧ Int.tmod h n = 0 ∧ lo ≤ wrap64 (Int.tdiv h n) ∧ wrap64 (Int.tdiv h n) ≤ most
  | 0, i => by
    simp only [R, List.not_mem_nil, false_iff]
    omega
  | d + 1, i => by
    by_cases c : Int.tmod h i = 0 ∧ lo ≤ wrap64 (Int.tdiv h i) ∧ wrap64 (Int.tdiv h i) ≤ most
    · rw [R_yes c, List.mem_cons, R_iff h lo most n d (i + 1)]
      constructor
      · rintro (rfl | g)
        · exact ⟨by omega, by omega, c⟩
        · exact ⟨by omega, by omega, g.2.2⟩
      · intro g
        by_cases e : n = i
        · exact .inl e
        · exact .inr ⟨by omega, by omega, g.2.2⟩
    · rw [R_no c, R_iff h lo most n d (i + 1)]
      constructor
      · intro g
        exact ⟨by omega, by omega, g.2.2⟩
      · intro g
        by_cases e : n = i
        · subst e
          exact absurd g.2.2 c
        · exact ⟨by omega, by omega, g.2.2⟩
def Good (tall length pace : Int) (x : S32) : Prop := flB x.f0 x.f1 x.f2 = true ∧ wrap64 (x.f0 * x.f1) = tall ∧ wrap64 (wrap64 (x.f0 - 1) * x.f2) ≤ length ∧ wrap64 (wrap64 (2 * x.f1) + x.f2) = pace
theorem opt_some {h run s n : Int} {x : S32} (e : FF.opt h run s n = some x) : x = (⟨n, wrap64 (Int.tdiv h n), FF.tr h s n⟩ : S32) ∧ flB n (wrap64 (Int.tdiv h n)) (FF.tr h s n) = true ∧ wrap64 (wrap64 (n - 1) * FF.tr h s n) ≤ run := by
  unfold FF.opt at e
  split at e
  · rename_i c
    exact ⟨(Option.some.inj e).symm, c⟩
  · cases e
theorem ff_good (h run s : Int) (h1 : 1 ≤ h ∧ h ≤ 6000) (h2 : 1 ≤ s ∧ s ≤ 2000) : ∀ x ∈ (R h 1 250 100 1).filterMap (FF.opt h run s), Good h run s x := by
  intro x hx
  obtain ⟨n, hn, he⟩ := List.mem_filterMap.1 hx
  obtain ⟨rfl, g1, g2⟩ := opt_some he
  have hm := R_mem h 1 250 100 1 n hn
  have hd := div_facts h n h1.1 h1.2 hm.1 hm.2.2.1
  have hb := flB_b g1
  refine ⟨g1, ?_, g2, ?_⟩
  · show wrap64 (n * wrap64 (Int.tdiv h n)) = h
    rw [← hd.2.2]
    exact wr (by omega) (by omega)
  · show wrap64 (wrap64 (2 * wrap64 (Int.tdiv h n)) + FF.tr h s n) = s
    unfold FF.tr at hb ⊢
    generalize wrap64 (Int.tdiv h n) = q at *
    rw [wr (x := 2 * q) (by omega) (by omega)] at hb ⊢
    rw [wr (x := s - 2 * q) (by omega) (by omega)]
    rw [wr (by omega) (by omega)]
    omega
theorem ff_sorted (h run s : Int) : ((R h 1 250 100 1).filterMap (FF.opt h run s)).Pairwise (fun x y => x.f0 < y.f0) := by
  refine List.Pairwise.filterMap _ (R := (· < ·)) ?_ (R_sorted h 1 250 100 1)
  intro a a' hlt b hb b' hb'
  obtain ⟨rfl, _⟩ := opt_some hb
  obtain ⟨rfl, _⟩ := opt_some hb'
  exact hlt
theorem rdT (l : List S32) (i : Nat) (h : i < l.length) : rd_T32 l (i : Int) = l[i] := by simp [rd_T32, List.getD, h]
theorem lFlights_l (l : List S32) (hl : l.length ≤ 1000) : ∀ (n i k : Nat), i + n = l.length → n < k → laws_lFlights.l0 k l l (l.length : Int) (i : Int) = some true
  | 0, i, k, hi, hk => by
    obtain ⟨k, rfl⟩ : ∃ m, k = m + 1 := ⟨k - 1, by omega⟩
    simp only [laws_lFlights.l0]
    rw [if_neg (by omega)]
  | n + 1, i, k, hi, hk => by
    obtain ⟨k, rfl⟩ : ∃ m, k = m + 1 := ⟨k - 1, by omega⟩
    have ew : wrap64 ((i : Int) + 1) = ((i + 1 : Nat) : Int) := by unfold wrap64; omega
    simp only [laws_lFlights.l0, ew, beq_self_eq_true, Bool.not_true, Bool.or_self, Bool.false_eq_true, if_false]
    rw [if_pos (by omega), if_pos (by omega), if_pos (by omega), if_pos (by omega), lFlights_l l hl n (i + 1) k (by omega) (by omega)]
theorem lFlights_val (l : List S32) (hl : l.length ≤ 1000) (k : Nat) (hk : 1001 ≤ k) : laws_lFlights.f k l l = some true := by
  unfold laws_lFlights.f
  rw [if_pos rfl]
  exact lFlights_l l hl l.length 0 k (by omega) (by omega)
theorem wrSame_l : ∀ (k : Nat) (h lo most i : Int) (acc : List Int), spec_WholeRisers.l0 k h lo most acc i = impl_WholeRisers.l0 k h lo most acc i := by
  intro k
  induction k with
  | zero => intros; rfl
  | succ k ih =>
    intro h lo most i acc
    simp only [spec_WholeRisers.l0, impl_WholeRisers.l0, in_eq, within_eq, ih]
theorem wrSame (k : Nat) (h lo most : Int) : spec_WholeRisers.f k h lo most = impl_WholeRisers.f k h lo most := by
  cases k with
  | zero => simp only [spec_WholeRisers.f, impl_WholeRisers.f, spec_riHigh.f, impl_isHigh.f, in_eq, within_eq, Option.bind_some, spec_WholeRisers.j0, impl_WholeRisers.j0]
  | succ k => simp only [spec_WholeRisers.f, impl_WholeRisers.f, spec_riHigh.f, impl_isHigh.f, in_eq, within_eq, Option.bind_some, spec_WholeRisers.j0, impl_WholeRisers.j0, wrSame_l]
theorem fin_true (s : ByteArray) : (if (prF s.data.toList).2.2.2 = true then ((impl_FlightText.f (prF s.data.toList).1 (prF s.data.toList).2.1 (prF s.data.toList).2.2.1).bind fun bt => (if bt.2 = true then (some (bt.1.toList == s.toList)) else (some false))) else (some true)) = some true := by
  by_cases c : (prF s.data.toList).2.2.2 = true
  · obtain ⟨g, e⟩ := prF_back s c
    rw [if_pos c, flText_impl, if_pos g]
    simp only [Option.bind_some, if_true]
    rw [e]
    simp
  · rw [if_neg c]
theorem l2_true (a lo most : Int) (s : ByteArray) : ∀ (d k : Nat) (i : Int), 1 ≤ i → i + d = 101 → d + 2000 < k → laws_FnRisersFitOfAll.l2 k a lo most s (R a lo most 100 1) (prF s.data.toList).2.2.2 i (prF s.data.toList).1 (prF s.data.toList).2.1 (prF s.data.toList).2.2.1 = some true
  | 0, k, i, h1, h2, hk => by
    obtain ⟨k, rfl⟩ : ∃ m, k = m + 1 := ⟨k - 1, by omega⟩
    have hl := R_length a lo most 100 1
    simp only [laws_FnRisersFitOfAll.l2]
    rw [if_neg (by omega), lRises_val _ (by omega) (R_sorted a lo most 100 1) k (by omega)]
    simp only [Option.bind_some, if_true]
    exact fin_true s
  | d + 1, k, i, h1, h2, hk => by
    obtain ⟨k, rfl⟩ : ∃ m, k = m + 1 := ⟨k - 1, by omega⟩
    have hl := R_length a lo most 100 1
    have ew : wrap64 (i + 1) = i + 1 := wr (by omega) (by omega)
    have ih := l2_true a lo most s d k (i + 1) (by omega) (by omega) (by omega)
    have hm := R_iff a lo most i 100 1
    simp only [laws_FnRisersFitOfAll.l2, lHas_val _ (show (R a lo most 100 1).length ≤ 1000 by omega) i k (by omega), Option.bind_some, ew]
    rw [if_pos (show i ≤ 100 by omega), if_neg (show ¬ i = 0 by omega)]
    by_cases c1 : Int.tmod a i = 0
    · rw [if_pos c1]
      by_cases c2 : wrap64 (Int.tdiv a i) ≥ lo
      · rw [if_pos c2]
        have e : decide (i ∈ R a lo most 100 1) = decide (wrap64 (Int.tdiv a i) ≤ most) := by
          rw [decide_eq_decide, hm]
          exact ⟨fun g => g.2.2.2.2, fun g => ⟨h1, by omega, c1, c2, g⟩⟩
        rw [e, bne_self_eq_false, if_neg (by simp)]
        exact ih
      · rw [if_neg c2]
        have e : decide (i ∈ R a lo most 100 1) = false := by
          rw [decide_eq_false_iff_not, hm]
          exact fun g => c2 g.2.2.2.1
        rw [e, if_neg (by simp)]
        exact ih
    · rw [if_neg c1]
      have e : decide (i ∈ R a lo most 100 1) = false := by
        rw [decide_eq_false_iff_not, hm]
        exact fun g => c1 g.2.2.1
      rw [e, if_neg (by simp)]
      exact ih
def wrV (a lo most : Int) : List Int × Bool := if wrB a lo most = true then (R a lo most 100 1, true) else ([], false)
theorem l1_true (tall length pace a lo most : Int) (s : ByteArray) (l : List S32) (hl : l.length ≤ 1000) (hg : ∀ x ∈ l, Good tall length pace x) (hs : l.Pairwise (fun x y => x.f0 < y.f0)) :
    ∀ (d i k : Nat), i + d = l.length → d + 3000 < k → laws_FnRisersFitOfAll.l1 k tall length pace a lo most s l (wrV a lo most).1 (wrV a lo most).2 (prF s.data.toList).2.2.2 l (l.length : Int) (i : Int) (prF s.data.toList).1 (prF s.data.toList).2.1 (prF s.data.toList).2.2.1 = some true
  | 0, i, k, hi, hk => by
    obtain ⟨k, rfl⟩ : ∃ m, k = m + 1 := ⟨k - 1, by omega⟩
    simp only [laws_FnRisersFitOfAll.l1]
    rw [if_neg (by omega)]
    by_cases c : wrB a lo most = true
    · have e : wrV a lo most = (R a lo most 100 1, true) := by unfold wrV; rw [if_pos c]
      rw [e]
      simp only [if_true]
      exact l2_true a lo most s 100 k 1 (by omega) (by omega) (by omega)
    · have e : wrV a lo most = ([], false) := by unfold wrV; rw [if_neg c]
      rw [e]
      simp only [Bool.false_eq_true, if_false]
      exact fin_true s
  | d + 1, i, k, hi, hk => by
    obtain ⟨k, rfl⟩ : ∃ m, k = m + 1 := ⟨k - 1, by omega⟩
    have ew : wrap64 ((i : Int) + 1) = ((i + 1 : Nat) : Int) := by unfold wrap64; omega
    have h : i < l.length := by omega
    obtain ⟨g1, g2, g3, g4⟩ := hg l[i] (List.getElem_mem h)
    have ih := l1_true tall length pace a lo most s l hl hg hs d (i + 1) k (by omega) (by omega)
    simp only [laws_FnRisersFitOfAll.l1, ew, rdT l i h, heightOf_i, runOf_i, paceSum_i, g1, if_true, Option.bind_some]
    rw [if_pos (by omega), if_pos (by omega), if_pos (by omega), if_pos g2, if_neg (by omega), if_pos g4]
    by_cases c : (i : Int) > 0
    · have em : wrap64 ((i : Int) - 1) = ((i - 1 : Nat) : Int) := by unfold wrap64; omega
      have hlt := List.pairwise_iff_getElem.1 hs (i - 1) i (by omega) h (by omega)
      rw [if_pos c, em, if_pos (by omega), if_pos (by omega), rdT l (i - 1) (by omega), if_neg (by omega)]
      exact ih
    · rw [if_neg c]
      exact ih
theorem j6_true (tall length pace a lo most : Int) (s : ByteArray) (l : List S32) (hl : l.length ≤ 1000) (hg : ∀ x ∈ l, Good tall length pace x) (hs : l.Pairwise (fun x y => x.f0 < y.f0)) (k : Nat) (hk : 5000 ≤ k) :
    laws_FnRisersFitOfAll.j6 k tall length pace a lo most s l (wrV a lo most).1 (wrV a lo most).2 (prF s.data.toList).2.2.2 (prF s.data.toList).1 (prF s.data.toList).2.1 (prF s.data.toList).2.2.1 = some true := by
  obtain ⟨k, rfl⟩ : ∃ m, k = m + 1 := ⟨k - 1, by omega⟩
  simp only [laws_FnRisersFitOfAll.j6]
  exact l1_true tall length pace a lo most s l hl hg hs l.length 0 k (by omega) (by omega)
theorem l0_true (h r tall length pace a lo most : Int) (h1 : 1 ≤ h ∧ h ≤ 6000) (h2 : 1 ≤ r ∧ r ≤ 100 ∧ r ≤ h) (s : ByteArray) (l : List S32) (hl : l.length ≤ 1000) (hg : ∀ x ∈ l, Good tall length pace x) (hs : l.Pairwise (fun x y => x.f0 < y.f0)) :
    ∀ (d i k : Nat), i + d = r.toNat → d + 6000 < k → laws_FnRisersFitOfAll.l0 k h r tall length pace a lo most s (ER.E h r r.toNat 0) l (wrV a lo most).1 (wrV a lo most).2 (prF s.data.toList).2.2.2 (ER.E h r r.toNat 0) ((ER.E h r r.toNat 0).length : Int) (i : Int) (prF s.data.toList).1 (prF s.data.toList).2.1 (prF s.data.toList).2.2.1 = some true
  | 0, i, k, hi, hk => by
    obtain ⟨k, rfl⟩ : ∃ m, k = m + 1 := ⟨k - 1, by omega⟩
    have e := ER.E_length h r r.toNat 0
    simp only [laws_FnRisersFitOfAll.l0]
    rw [if_neg (by omega)]
    exact j6_true tall length pace a lo most s l hl hg hs k (by omega)
  | d + 1, i, k, hi, hk => by
    obtain ⟨k, rfl⟩ : ∃ m, k = m + 1 := ⟨k - 1, by omega⟩
    have e := ER.E_length h r r.toNat 0
    have ew : wrap64 ((i : Int) + 1) = ((i + 1 : Nat) : Int) := by unfold wrap64; omega
    have ev := ev_val h r (0 + i) h1 h2 (by omega) (by omega)
    have et : Int.tdiv h r = h / r := Int.tdiv_eq_ediv_of_nonneg (by omega)
    have er := E_rd h r r.toNat i 0 (by omega)
    have ek : (ER.E h r r.toNat 0).take (((i + 1 : Nat) : Int)).toNat = ER.E h r (i + 1) 0 := by
      rw [Int.toNat_natCast, E_take h r r.toNat (i + 1) 0 (by omega)]
    have es : laws_lSum.f k (ER.E h r (i + 1) 0) = some (qE h r ((i + 1 : Nat) : Int)) := by
      rw [lSum_val _ (by rw [ER.E_length]; omega) (E_bnd h r h1 h2 (i + 1) 0 (by omega) (by omega)) k (by omega), E_sum h r h1 h2 (i + 1) 0 (by omega) (by omega)]
      unfold qE
      simp
    have p2 : 0 ≤ ((i + 1 : Nat) : Int) * h := Int.mul_nonneg (by omega) (by omega)
    have p1 : ((i + 1 : Nat) : Int) * h ≤ 100 * 6000 := Int.mul_le_mul (by omega) h1.2 (by omega) (by omega)
    have d1 := Int.ediv_nonneg p2 (show 0 ≤ r by omega)
    have d3 : ((i + 1 : Nat) : Int) * h / r ≤ ((i + 1 : Nat) : Int) * h := Int.ediv_le_self _ p2
    have eq : wrap64 (Int.tdiv (wrap64 (((i + 1 : Nat) : Int) * h)) r) = qE h r ((i + 1 : Nat) : Int) := by
      unfold qE
      rw [wr (x := ((i + 1 : Nat) : Int) * h) (by omega) (by omega), Int.tdiv_eq_ediv_of_nonneg p2]
      exact wr (by omega) (by omega)
    have ih := l0_true h r tall length pace a lo most h1 h2 s l hl hg hs d (i + 1) k (by omega) (by omega)
    simp only [laws_FnRisersFitOfAll.l0, ew, er, ek, es, eq, et, Option.bind_some, if_true]
    rw [wr (x := h / r) (by omega) (by omega), wr (x := h / r + 1) (by omega) (by omega)]
    rw [if_pos (by omega), if_pos (by omega), if_pos (by omega), if_neg (by omega), if_neg (show ¬ ER.ev h r (0 + i) < 1 by omega), if_pos (show (0 : Int) ≤ ((i + 1 : Nat) : Int) by omega), if_pos (show ((i + 1 : Nat) : Int) ≤ ((ER.E h r r.toNat 0).length : Int) by omega)]
    rcases ev.2.2 with z | z
    · rw [if_pos z]
      exact ih
    · rw [if_neg (by omega), if_pos z]
      exact ih
theorem j2_true (h r tall length pace a lo most : Int) (s : ByteArray) (hs : s.size ≤ 1048576) (k : Nat) (hk : 2000000 ≤ k) : laws_FnRisersFitOfAll.j2 k h r tall length pace a lo most s = some true := by
  obtain ⟨k, rfl⟩ : ∃ m, k = m + 1 := ⟨k - 1, by omega⟩
  obtain ⟨even, thirteen, el, ef, ev⟩ := ER.val h r
  obtain ⟨all, fifteen, fl, ff, fv⟩ := FF.val tall length pace
  have hg : ∀ x ∈ all, Good tall length pace x := by
    rcases ff with rfl | ⟨g1, g2, rfl⟩
    · intro x hx; cases hx
    · exact ff_good tall length pace g1 g2
  have hsd : all.Pairwise (fun x y => x.f0 < y.f0) := by
    rcases ff with rfl | ⟨g1, g2, rfl⟩
    · exact List.Pairwise.nil
    · exact ff_sorted tall length pace
  have wv : ∀ k, 200 ≤ k → impl_WholeRisers.f k a lo most = some (wrV a lo most) := fun k hk => impl_WR k hk a lo most
  have wl : (wrV a lo most).1.length ≤ 1000 := by
    have := R_length a lo most 100 1
    unfold wrV
    split
    · simp only; omega
    · simp
  simp only [laws_FnRisersFitOfAll.j2, (ev k (by omega)).1, (ev k (by omega)).2, (fv k (by omega)).1, (fv k (by omega)).2, wrSame, wv k (by omega), parseFlight_impl s hs, parseFlight_spec s hs k (by omega), Option.bind_some, bne_self_eq_false, Bool.false_eq_true, if_false, lSame_val even el k (by omega), lFlights_val all fl k (by omega), lSame_val _ wl k (by omega), if_true, beq_self_eq_true, Bool.not_true, Bool.or_self]
  obtain ⟨k, rfl⟩ : ∃ m, k = m + 1 := ⟨k - 1, by omega⟩
  simp only [laws_FnRisersFitOfAll.j3, Bool.false_eq_true, if_false]
  rcases ef with ⟨rfl, rfl⟩ | ⟨rfl, g1, g2, rfl⟩
  · simp only [Bool.false_eq_true, if_false]
    exact j6_true tall length pace a lo most s all fl hg hsd k (by omega)
  · have e := ER.E_length h r r.toNat 0
    have hsum : (ER.E h r r.toNat 0).sum = h := by
      rw [E_sum h r g1 g2 r.toNat 0 (by omega) (by omega)]
      unfold qE
      rw [show (0 : Int) + (r.toNat : Int) = r by omega, Int.mul_ediv_cancel_left h (by omega)]
      simp
    simp only [if_true]
    rw [if_pos (by omega), lSum_val _ el (E_bnd h r g1 g2 r.toNat 0 (by omega) (by omega)) k (by omega), hsum]
    simp only [Option.bind_some, bne_self_eq_false]
    obtain ⟨k, rfl⟩ : ∃ m, k = m + 1 := ⟨k - 1, by omega⟩
    simp only [laws_FnRisersFitOfAll.j4, Bool.false_eq_true, if_false]
    exact l0_true h r tall length pace a lo most g1 g2 s all fl hg hsd r.toNat 0 k (by omega) (by omega)
theorem j1_true (b1 b2 tall length pace a lo most : Int) (s : ByteArray) (hs : s.size ≤ 1048576) (n R T : Int) (g : flB n R T = true) (k : Nat) (hk : 2000001 ≤ k) :
    laws_FnRisersFitOfAll.j1 k b1 b2 tall length pace a lo most s (wrap64 (n * R)) (wrap64 (wrap64 (n - 1) * T)) (wrap64 (wrap64 (2 * R) + T)) false n R T = some true := by
  obtain ⟨k, rfl⟩ : ∃ m, k = m + 1 := ⟨k - 1, by omega⟩
  have hb := flB_b g
  have ih := j2_true b1 b2 tall length pace a lo most s hs k (by omega)
  have e0 : wrap64 (n - 1) = n - 1 := wr (by omega) (by omega)
  have e1 : wrap64 (2 * R) = 2 * R := wr (by omega) (by omega)
  have e2 : wrap64 (2 * R + T) = 2 * R + T := wr (by omega) (by omega)
  have p3 : 0 ≤ (n - 1) * T := Int.mul_nonneg (by omega) (by omega)
  have p4 : (n - 1) * T ≤ 99 * 500 := Int.mul_le_mul (by omega) hb.2.2.2.2.2 (by omega) (by omega)
  have e3 : wrap64 ((n - 1) * T) = (n - 1) * T := wr (by omega) (by omega)
  have tf : impl_TreadFor.f R (2 * R + T) = some (T, true) := by
    have e4 : wrap64 (2 * R + T - 2 * R) = T := by rw [wr (by omega) (by omega)]; omega
    simp only [impl_TreadFor.f, impl_isSum.f, within_eq, Option.bind_some, e1, e4]
    rw [if_pos (decide_eq_true (by omega)), if_pos (decide_eq_true (by omega)), if_pos (decide_eq_true (by omega))]
  have hr : impl_HeightAtRun.f k n R T ((n - 1) * T) = some (wrap64 (n * R), true) := by
    obtain ⟨k, rfl⟩ : ∃ m, k = m + 1 := ⟨k - 1, by omega⟩
    rw [har_eq]
    have hp : plB n R T ((n - 1) * T) = true := by
      unfold plB
      rw [g, e0, e3, decide_eq_true ⟨by omega, by rw [wr (by omega) (by omega)]; omega⟩]
      rfl
    rw [if_pos hp]
    unfold atV
    rw [if_neg (by omega), Int.mul_tdiv_cancel _ (show T ≠ 0 by omega), e0, show n - 1 + 1 = n by omega, wr (x := n) (by omega) (by omega)]
    have : mn n n = n := by unfold mn; split <;> rfl
    rw [this]
  simp only [laws_FnRisersFitOfAll.j1, e0, e1, e2, e3, tf, hr, Option.bind_some, Bool.false_eq_true, if_false, if_true]
  rw [if_pos (by omega)]
  exact ih
theorem j0_true (b1 b2 tall length pace a lo most : Int) (s : ByteArray) (hs : s.size ≤ 1048576) (n R T : Int) (r : Int × Bool) (hr : r.2 = true → flB n R T = true ∧ wrap64 (r.1 * r.1) = sqV n R T) (k : Nat) (hk : 2000002 ≤ k) :
    laws_FnRisersFitOfAll.j0 k b1 b2 tall length pace a lo most s r.1 r.2 (if flB n R T = true then (wrap64 (n * R), true) else (0, false)).1 (if flB n R T = true then (wrap64 (n * R), true) else (0, false)).2
      (if flB n R T = true then (wrap64 (wrap64 (n - 1) * T), true) else (0, false)).1 (if flB n R T = true then ((lowP R T).1, (lowP R T).2, true) else (0, 0, false)).1 (if flB n R T = true then ((lowP R T).1, (lowP R T).2, true) else (0, 0, false)).2.1
      (if flB n R T = true then (wrap64 (wrap64 (2 * R) + T), true) else (0, false)).1 (if flB n R T = true then (sqV n R T, true) else (0, false)).1 (if flB n R T = true then (flTxt n R T, true) else ((⟨#[]⟩ : ByteArray), false)).1 false n R T = some true := by
  obtain ⟨k, rfl⟩ : ∃ m, k = m + 1 := ⟨k - 1, by omega⟩
  simp only [laws_FnRisersFitOfAll.j0, Bool.false_eq_true, if_false]
  by_cases g : flB n R T = true
  · have hb := flB_b g
    have L := low_lowP R T (by omega) (by omega) (by omega) (by omega)
    have ls : laws_lIs.f k (lowP R T).1 (lowP R T).2 R T = some true := lIs_val k _ _ _ _ L.1 L.2.1 L.2.2.1 (by have := L.2.2.2.2.1; omega) (by rw [L.2.2.2.1])
    have i1 := j1_true b1 b2 tall length pace a lo most s hs n R T g k (by omega)
    simp only [if_pos g, if_true, parse_fl g, Option.bind_some, ls, beq_self_eq_true, Bool.not_true, Bool.or_self]
    rw [if_pos (show sqV n R T = wrap64 (wrap64 (wrap64 (n * R) * wrap64 (n * R)) + wrap64 (wrap64 (wrap64 (n - 1) * T) * wrap64 (wrap64 (n - 1) * T))) from rfl)]
    by_cases c : r.2 = true
    · rw [if_pos c, if_pos (hr c).2]
      exact i1
    · rw [if_neg c]
      exact i1
  · simp only [if_neg g, Bool.false_eq_true, if_false]
    exact j2_true b1 b2 tall length pace a lo most s hs k (by omega)
theorem risersFit_true (k : Nat) (hk : 3000000 ≤ k) (n R T b1 b2 tall length pace a lo most : Int) (s : ByteArray) : laws_FnRisersFitOfAll.f k n R T b1 b2 tall length pace a lo most s = some true := by
  unfold laws_FnRisersFitOfAll.f
  by_cases hs : (s.size : Int) > 1048576
  · rw [if_pos hs]
  · obtain ⟨r, w1, w2, w3⟩ := wholeLine k (by omega) n R T
    have i0 := j0_true b1 b2 tall length pace a lo most s (by omega) n R T r w3 k (by omega)
    have sp : spec_IsFlight.f n R T = some (flB n R T) := by simp only [spec_IsFlight.f, riGood_eq, Option.bind_some]
    rw [if_neg hs]
    simp only [w1, w2, heightOf_i, heightOf_s, runOf_i, runOf_s, slopeOf_i k (show 501 ≤ k by omega), slopeOf_s k (show 501 ≤ k by omega), paceSum_i, paceSum_s, lineSquare_i, lineSquare_s, flText_impl, flText_spec _ _ _ k (show 20 ≤ k by omega), isFlight_eq, sp, Option.bind_some, bne_self_eq_false, Bool.false_eq_true, if_false, if_true]
    have o1 : (if flB n R T = true then (wrap64 (n * R), true) else (0, false)).2 = flB n R T := by cases flB n R T <;> rfl
    have o2 : (if flB n R T = true then (wrap64 (wrap64 (n - 1) * T), true) else (0, false)).2 = flB n R T := by cases flB n R T <;> rfl
    have o3 : (if flB n R T = true then ((lowP R T).1, (lowP R T).2, true) else (0, 0, false)).2.2 = flB n R T := by cases flB n R T <;> rfl
    have o4 : (if flB n R T = true then (wrap64 (wrap64 (2 * R) + T), true) else (0, false)).2 = flB n R T := by cases flB n R T <;> rfl
    have o5 : (if flB n R T = true then (sqV n R T, true) else (0, false)).2 = flB n R T := by cases flB n R T <;> rfl
    have o6 : (if flB n R T = true then (flTxt n R T, true) else ((⟨#[]⟩ : ByteArray), false)).2 = flB n R T := by cases flB n R T <;> rfl
    rw [o1] at i0
    simp only [o1, o2, o3, o4, o5, o6, bne_self_eq_false, Bool.false_eq_true, if_false]
    by_cases c : r.2 = true
    · have g := (w3 c).1
      rw [if_pos c]
      rw [show (!flB n R T) = false by rw [g]; rfl]
      exact i0
    · rw [if_neg c]
      exact i0
theorem FnRisersFitOfAll (a0_0 : Int) (a0_1 : Int) (a0_2 : Int) (a1 : Int) (a2 : Int) (a3 : Int) (a4 : Int) (a5 : Int) (a6 : Int) (a7 : Int) (a8 : Int) (a9 : ByteArray) (w0_0 : (Lit.int .i64 a0_0).wf = true) (w0_1 : (Lit.int .i64 a0_1).wf = true) (w0_2 : (Lit.int .i64 a0_2).wf = true) (w1 : (Lit.int .i64 a1).wf = true) (w2 : (Lit.int .i64 a2).wf = true) (w3 : (Lit.int .i64 a3).wf = true) (w4 : (Lit.int .i64 a4).wf = true) (w5 : (Lit.int .i64 a5).wf = true) (w6 : (Lit.int .i64 a6).wf = true) (w7 : (Lit.int .i64 a7).wf = true) (w8 : (Lit.int .i64 a8).wf = true) (w9 : a9.size ≤ 140737488351232) : ∃ k, laws_FnRisersFitOfAll.f k a0_0 a0_1 a0_2 a1 a2 a3 a4 a5 a6 a7 a8 a9 = some true := by
  exact ⟨3000000, risersFit_true 3000000 (Nat.le_refl _) _ _ _ _ _ _ _ _ _ _ _ _⟩
end Go.Proofs.YtbmdgmmegchmnaaDoor.Pure
