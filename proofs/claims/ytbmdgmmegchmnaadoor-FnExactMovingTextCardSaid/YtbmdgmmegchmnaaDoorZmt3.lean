/- The plain law of FnExactMovingText: what the reference's function tells, the program's function tells, for every input. No further condition. -/
import Derived.Test.YtbmdgmmegchmnaaDoorZmt2
import Derived.Lib.ItoaNum
import Derived.Lib.ItoaLen
import Derived.Lib.AtoiAllCases
import Derived.Lib.Atoi
import Derived.Lib.Split
import Derived.Lib.SplitLaws
namespace Go.Proofs.YtbmdgmmegchmnaaDoor.Pure
open Go.RowKit Go.Proofs.YtbmdgmmegchmnaaDoor.T Go.Proofs.YtbmdgmmegchmnaaDoorW.PrintWords Go.Proofs.YtbmdgmmegchmnaaDoorW.PrintLast
set_option linter.unusedVariables false
set_option linter.unusedSimpArgs false
theorem in_eq (a b c : Int) : spec_l1In.f a b c = some (decide (b ≤ a ∧ a ≤ c)) := by
  unfold spec_l1In.f
  by_cases h : a ≥ b
  · rw [if_pos h]
    simp [show b ≤ a from h]
  · rw [if_neg h]
    simp [show ¬ b ≤ a from h]
theorem within_eq (a b c : Int) : impl_within.f a b c = some (decide (b ≤ a ∧ a ≤ c)) := by
  unfold impl_within.f
  by_cases h : b ≤ a
  · rw [if_pos h]
    simp [h]
  · rw [if_neg h]
    simp [h]
section Num
open Go.Lib
theorem dd_step (n : Nat) (h : ¬ n < 10) : decDigits n = decDigits (n / 10) ++ [UInt8.ofNat (48 + n % 10)] := by rw [decDigits, dif_neg h]
theorem dd_len (k : Nat) : ∀ n, n < 10 ^ (k + 1) → (decDigits n).length ≤ k + 1 := by
  induction k with
  | zero => intro n h; rw [decDigits_one (by simpa using h)]; simp
  | succ k ih =>
    intro n h
    by_cases c : n < 10
    · rw [decDigits_one c]; simp
    · rw [dd_step n c, List.length_append]
      have := ih (n / 10) (by rw [Nat.pow_succ] at h; omega)
      simpa using this
theorem itoa_dec (n : Nat) : itoa (n : Int) = decDigits n := by
  unfold itoa; rw [if_neg (by omega)]; rfl
end Num
section Spl
open Go.Lib
end Spl
section Txt
open Go.Lib
def nm (n : Int) : ByteArray := ⟨(itoa n).toArray⟩
theorem nm_size (n : Int) : (nm n).size = (itoa n).length := by simp [nm, ByteArray.size]
theorem nm_le (n : Int) (h0 : -9223372036854775808 ≤ n) (h1 : n ≤ 9223372036854775807) : (nm n).size ≤ 21 := by rw [nm_size]; exact itoa_length_le n h0 h1
theorem one_eq (d : Int) (h0 : 0 ≤ d) (h : d < 10) : strOfNums [(wrap64 (48 + d)) % 256] = ⟨#[UInt8.ofNat (48 + d.toNat)]⟩ := by
  have e : (wrap64 (48 + d)) % 256 = 48 + d := by unfold wrap64; omega
  rw [e]
  simp only [strOfNums, List.map_cons, List.map_nil]
  rw [show (48 + d).toNat = 48 + d.toNat by omega]
theorem l1Num_eq (k : Nat) : ∀ (n : Nat), n < 10 ^ (k + 1) → k ≤ 18 → ∀ K, k < K → spec_l1Num.f K (n : Int) = some (nm n) := by
  induction k with
  | zero =>
    intro n h _ K hK
    obtain ⟨K, rfl⟩ : ∃ m, K = m + 1 := ⟨K - 1, by omega⟩
    have h' : n < 10 := by simpa using h
    simp only [spec_l1Num.f]
    rw [if_pos (by omega), one_eq n (by omega) (by omega)]
    unfold nm
    rw [itoa_dec, decDigits_one h', Int.toNat_natCast]
  | succ k ih =>
    intro n h hk K hK
    obtain ⟨K, rfl⟩ : ∃ m, K = m + 1 := ⟨K - 1, by omega⟩
    simp only [spec_l1Num.f]
    by_cases c : n < 10
    · rw [if_pos (by omega), one_eq n (by omega) (by omega)]
      unfold nm
      rw [itoa_dec, decDigits_one c, Int.toNat_natCast]
    · have hn : n / 10 < 10 ^ (k + 1) := by rw [Nat.pow_succ] at h; omega
      have hp : 10 ^ (k + 1) ≤ 10 ^ 18 := Nat.pow_le_pow_right (by decide) (by omega)
      have e18 : (10 : Nat) ^ 18 = 1000000000000000000 := by decide
      have e1 : Int.tdiv (n : Int) 10 = ((n / 10 : Nat) : Int) := (Int.ofNat_tdiv n 10).symm
      have e2 : Int.tmod (n : Int) 10 = ((n % 10 : Nat) : Int) := (Int.ofNat_tmod n 10).symm
      have e3 : wrap64 (((n / 10 : Nat) : Int)) = ((n / 10 : Nat) : Int) := by unfold wrap64; omega
      rw [if_neg (by omega), e1, e3, ih (n / 10) hn (by omega) K (by omega), e2]
      simp only [Option.bind_some]
      rw [one_eq _ (by omega) (by omega)]
      have hl := dd_len k (n / 10) hn
      have hs : (nm ((n / 10 : Nat) : Int)).size = (decDigits (n / 10)).length := by rw [nm_size, itoa_dec]
      rw [if_pos (by rw [hs]; simp [ByteArray.size]; omega)]
      congr 1
      unfold nm
      rw [itoa_dec n, itoa_dec (n / 10), dd_step n c, Int.toNat_natCast]
      apply ByteArray.ext
      simp
theorem l1Num_int (a : Int) (h0 : 0 ≤ a) (h1 : a ≤ 1000000) (K : Nat) (hK : 20 ≤ K) : spec_l1Num.f K a = some (nm a) := by
  obtain ⟨n, rfl⟩ : ∃ n : Nat, a = n := ⟨a.toNat, by omega⟩
  exact l1Num_eq 18 n (by have e : (10 : Nat) ^ (18 + 1) = 10000000000000000000 := by decide
                          omega) (by omega) K (by omega)
theorem itoa_eq (a : Int) (h0 : 0 ≤ a) (h1 : a ≤ 1000000) : strconv_Itoa_108.f a = some (nm a) := by
  unfold strconv_Itoa_108.f
  rw [if_pos (by omega)]; rfl
theorem nm_le' (a : Int) (h0 : 0 ≤ a) (h1 : a ≤ 1000000) : (nm a).size ≤ 21 := nm_le a (by omega) (by omega)
end Txt
def moB (a b : Int) : Bool := decide (1 ≤ a ∧ a ≤ 500 ∧ 0 ≤ b ∧ b ≤ 20)
theorem moGood_eq (a b : Int) : spec_moGood.f a b = some (moB a b) := by
  unfold spec_moGood.f moB
  rw [in_eq, in_eq]
  simp only [Option.bind_some]
  by_cases h : 1 ≤ a ∧ a ≤ 500
  · rw [if_pos (by simpa using h)]; simp [h]
  · rw [if_neg (by simpa using h)]
    congr 1
    symm
    rw [decide_eq_false_iff_not]
    omega
theorem isMoving_eq (a b : Int) : impl_IsMoving.f a b = some (moB a b) := by
  unfold impl_IsMoving.f moB
  rw [within_eq, within_eq]
  simp only [Option.bind_some]
  by_cases h : 1 ≤ a ∧ a ≤ 500
  · rw [if_pos (by simpa using h)]; simp [h]
  · rw [if_neg (by simpa using h)]
    congr 1
    symm
    rw [decide_eq_false_iff_not]
    omega
def moTxt (a b : Int) : ByteArray := (nm a ++ (⟨#[118]⟩ : ByteArray)) ++ nm b
theorem moText_spec (a b : Int) (K : Nat) (hK : 20 ≤ K) : spec_MovingText.f K a b = some (if moB a b = true then (moTxt a b, true) else ((⟨#[]⟩ : ByteArray), false)) := by
  unfold spec_MovingText.f
  rw [moGood_eq]
  simp only [Option.bind_some]
  by_cases h : moB a b = true
  · rw [if_pos h, if_pos h]
    have h' := h
    simp only [moB, decide_eq_true_eq] at h'
    unfold spec_moText.f
    have s1 := nm_le' a (by omega) (by omega)
    have s2 := nm_le' b (by omega) (by omega)
    rw [l1Num_int a (by omega) (by omega) K hK, l1Num_int b (by omega) (by omega) K hK]
    simp only [Option.bind_some]
    rw [if_pos (by omega)]
    simp only [ByteArray.size_append]
    rw [if_pos (by have : (⟨#[118]⟩ : ByteArray).size = 1 := rfl
                   omega)]
    rfl
  · rw [if_neg h, if_neg h]
theorem moText_impl (a b : Int) : impl_MovingText.f a b = some (if moB a b = true then (moTxt a b, true) else ((⟨#[]⟩ : ByteArray), false)) := by
  unfold impl_MovingText.f
  rw [isMoving_eq]
  simp only [Option.bind_some]
  by_cases h : moB a b = true
  · rw [if_pos h, if_pos h]
    have h' := h
    simp only [moB, decide_eq_true_eq] at h'
    have s1 := nm_le' a (by omega) (by omega)
    have s2 := nm_le' b (by omega) (by omega)
    rw [itoa_eq a (by omega) (by omega), itoa_eq b (by omega) (by omega)]
    simp only [Option.bind_some]
    rw [if_pos (by omega)]
    simp only [ByteArray.size_append]
    rw [if_pos (by have : (⟨#[118]⟩ : ByteArray).size = 1 := rfl
                   omega)]
    rfl
  · rw [if_neg h, if_neg h]
theorem FnExactMovingText (a0_0 : Int) (a0_1 : Int) (w0_0 : (Lit.int .i64 a0_0).wf = true) (w0_1 : (Lit.int .i64 a0_1).wf = true) : ∃ k, laws_FnExactMovingText.f k a0_0 a0_1 = some true := by
  refine ⟨20, ?_⟩
  simp only [laws_FnExactMovingText.f, laws_toMoving.f, Option.bind_some, moText_spec _ _ 20 (Nat.le_refl _), moText_impl]
  simp
end Go.Proofs.YtbmdgmmegchmnaaDoor.Pure
