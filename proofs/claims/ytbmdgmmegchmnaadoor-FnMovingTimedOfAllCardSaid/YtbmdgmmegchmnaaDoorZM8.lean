/- The plain law of FnMovingTimedOfAll: what the reference's function tells, the program's function tells, for every input. No further condition. -/
import Derived.Test.YtbmdgmmegchmnaaDoorZM6
import Derived.Lib.ItoaNum
import Derived.Lib.ItoaLen
import Derived.Lib.AtoiAllCases
import Derived.Lib.Atoi
import Derived.Lib.Split
import Derived.Lib.SplitLaws
namespace Go.Proofs.YtbmdgmmegchmnaaDoor.Pure
open Go.RowKit Go.Proofs.YtbmdgmmegchmnaaDoor.M Go.Proofs.YtbmdgmmegchmnaaDoorW.PrintWords Go.Proofs.YtbmdgmmegchmnaaDoorW.PrintLast
set_option linter.unusedVariables false
set_option linter.unusedSimpArgs false
def gI (a b : Int) : Int := (Nat.gcd a.toNat b.toNat : Nat)
theorem gI_step (a b : Int) (ha : 0 ≤ a) (hb : 0 < b) : gI b (Int.tmod a b) = gI a b := by
  obtain ⟨m, rfl⟩ := Int.eq_ofNat_of_zero_le ha
  obtain ⟨n, rfl⟩ := Int.eq_ofNat_of_zero_le (show (0 : Int) ≤ b by omega)
  have e : (Int.tmod (m : Int) (n : Int)).toNat = m % n := by
    rw [Int.tmod_eq_emod_of_nonneg (by omega), ← Int.natCast_emod, Int.toNat_natCast]
  unfold gI
  rw [e, Int.toNat_natCast, Int.toNat_natCast, Nat.gcd_comm m n, Nat.gcd_rec n m, Nat.gcd_comm]
theorem gI_zero (a : Int) (ha : 0 ≤ a) : gI a 0 = a := by
  unfold gI
  simp
  omega
theorem gI_pos (a b : Int) (hb : 0 < b) : 0 < gI a b := by
  unfold gI
  have := Nat.gcd_pos_of_pos_right a.toNat (show 0 < b.toNat by omega)
  omega
theorem tmod_nn (a b : Int) (ha : 0 ≤ a) (hb : 0 < b) : 0 ≤ Int.tmod a b ∧ Int.tmod a b < b := by
  rw [Int.tmod_eq_emod_of_nonneg ha]
  exact ⟨Int.emod_nonneg _ (by omega), Int.emod_lt_of_pos _ hb⟩
theorem gcd_l (d : Nat) : ∀ (k : Nat) (a b : Int), 0 ≤ a → 0 ≤ b → b ≤ d → d < k → impl_gcd.l0 k a b = some (gI a b) := by
  induction d with
  | zero =>
    intro k a b ha hb hd hk
    obtain ⟨k, rfl⟩ : ∃ m, k = m + 1 := ⟨k - 1, by omega⟩
    obtain rfl : b = 0 := by omega
    simp only [impl_gcd.l0]
    rw [if_pos trivial, gI_zero a ha]
  | succ d ih =>
    intro k a b ha hb hd hk
    obtain ⟨k, rfl⟩ : ∃ m, k = m + 1 := ⟨k - 1, by omega⟩
    simp only [impl_gcd.l0]
    by_cases h : b = 0
    · subst h
      rw [if_pos rfl, gI_zero a ha]
    · have z := tmod_nn a b ha (by omega)
      rw [if_neg h, ih k b _ (by omega) z.1 (by omega) (by omega), gI_step a b ha (by omega)]
def lowP (n d : Int) : Int × Int := (wrap64 (Int.tdiv n (gI n d)), wrap64 (Int.tdiv d (gI n d)))
theorem gcd_val (k : Nat) (n d : Int) (hn : 0 ≤ n) (hd : 0 ≤ d) (hk : d.toNat < k) : impl_gcd.f k n d = some (gI n d) := by
  unfold impl_gcd.f
  exact gcd_l d.toNat k n d hn hd (by omega) hk
theorem part_val (k : Nat) (n d : Int) (hn : 0 ≤ n) (hd : 0 < d) (hk : d.toNat < k) : impl_part.f k n d = some ((lowP n d).1, (lowP n d).2, true) := by
  have g := gI_pos n d hd
  simp only [impl_part.f, gcd_val k n d hn (by omega) hk, Option.bind_some, lowP]
  rw [if_neg (by omega), if_neg (by omega)]
theorem part_none (k : Nat) (n d : Int) (hd : d ≤ 0) : impl_part.f k n d = some (0, 0, false) := by
  simp only [impl_part.f]
  rw [if_pos hd]
theorem moLow_l (n d0 : Int) (d : Nat) : ∀ (k : Nat) (a b : Int), 0 ≤ a → 0 ≤ b → 0 < gI a b → b ≤ d → d < k → spec_moLow.l0 k n d0 a b = some (wrap64 (Int.tdiv n (gI a b)), wrap64 (Int.tdiv d0 (gI a b))) := by
  induction d with
  | zero =>
    intro k a b ha hb hg hd hk
    obtain ⟨k, rfl⟩ : ∃ m, k = m + 1 := ⟨k - 1, by omega⟩
    obtain rfl : b = 0 := by omega
    rw [gI_zero a ha] at hg ⊢
    simp only [spec_moLow.l0]
    rw [if_neg (by omega), if_neg (by omega)]
  | succ d ih =>
    intro k a b ha hb hg hd hk
    obtain ⟨k, rfl⟩ : ∃ m, k = m + 1 := ⟨k - 1, by omega⟩
    simp only [spec_moLow.l0]
    by_cases h : b = 0
    · subst h
      rw [gI_zero a ha] at hg ⊢
      rw [if_neg (by omega), if_neg (by omega)]
    · have z := tmod_nn a b ha (by omega)
      have e := gI_step a b ha (by omega)
      rw [if_pos (by omega), if_neg h, ih k b _ (by omega) z.1 (by omega) (by omega) (by omega), e]
theorem moLow_val (k : Nat) (n d : Int) (hn : 0 ≤ n) (hd : 0 < d) (hk : d.toNat < k) : spec_moLow.f k n d = some (lowP n d) := by
  unfold spec_moLow.f
  exact moLow_l n d d.toNat k n d hn (by omega) (gI_pos n d hd) (by omega) hk
theorem in_eq (a b c : Int) : spec_l1In.f a b c = some (decide (b ≤ a ∧ a ≤ c)) := by
  unfold spec_l1In.f
  by_cases h : a ≥ b
  · rw [if_pos h]
    simp [show b ≤ a from h]
  · rw [if_neg h]
    simp [show ¬ b ≤ a from h]
theorem within_eq (a b c : Int) : impl_within.f a b c = some (decide (b ≤ a ∧ a ≤ c)) := by
  unfold impl_within.f
  by_cases h : b ≤ a
  · rw [if_pos h]
    simp [h]
  · rw [if_neg h]
    simp [h]
section Num
open Go.Lib
theorem u8_dig (d : Nat) (h : d < 10) : (UInt8.ofNat (48 + d)).toNat = 48 + d := by
  rw [UInt8.toNat_ofNat']; exact Nat.mod_eq_of_lt (by omega)
theorem dd_step (n : Nat) (h : ¬ n < 10) : decDigits n = decDigits (n / 10) ++ [UInt8.ofNat (48 + n % 10)] := by rw [decDigits, dif_neg h]
theorem dd_len (k : Nat) : ∀ n, n < 10 ^ (k + 1) → (decDigits n).length ≤ k + 1 := by
  induction k with
  | zero => intro n h; rw [decDigits_one (by simpa using h)]; simp
  | succ k ih =>
    intro n h
    by_cases c : n < 10
    · rw [decDigits_one c]; simp
    · rw [dd_step n c, List.length_append]
      have := ih (n / 10) (by rw [Nat.pow_succ] at h; omega)
      simpa using this
theorem dd_pos (n : Nat) : 1 ≤ (decDigits n).length := by
  by_cases c : n < 10
  · rw [decDigits_one c]; simp
  · rw [dd_step n c]; simp
theorem dd_ne (n : Nat) : decDigits n ≠ [] := by intro h; have := dd_pos n; rw [h] at this; simp at this
theorem dd_digit (n : Nat) : ∀ c ∈ decDigits n, 48 ≤ c.toNat ∧ c.toNat ≤ 57 := by
  induction n using Nat.strongRecOn with
  | _ n ih =>
    intro c hc
    by_cases h : n < 10
    · rw [decDigits_one h] at hc
      obtain rfl := List.mem_singleton.1 hc
      rw [u8_dig n h]; omega
    · rw [dd_step n h, List.mem_append] at hc
      rcases hc with hc | hc
      · exact ih (n / 10) (by omega) c hc
      · obtain rfl := List.mem_singleton.1 hc
        rw [u8_dig (n % 10) (by omega)]; omega
theorem df_app (l : List UInt8) (c : UInt8) : ∀ acc, decFrom acc (l ++ [c]) = (decFrom acc l).bind fun a => (digitVal c).map fun d => a * 10 + d := by
  induction l with
  | nil => intro acc; simp only [List.nil_append, decFrom, Option.bind_some]; cases digitVal c <;> rfl
  | cons b r ih =>
    intro acc
    simp only [List.cons_append, decFrom]
    cases digitVal b with
    | none => rfl
    | some d => exact ih _
theorem dv_dig (d : Nat) (h : d < 10) : digitVal (UInt8.ofNat (48 + d)) = some d := by
  unfold digitVal; rw [u8_dig d h, if_pos (by omega)]; congr 1; omega
theorem df_dec (n : Nat) : decFrom 0 (decDigits n) = some n := by
  induction n using Nat.strongRecOn with
  | _ n ih =>
    by_cases h : n < 10
    · rw [decDigits_one h]; simp only [decFrom, dv_dig n h]; congr 1; omega
    · rw [dd_step n h, df_app, ih (n / 10) (by omega), Option.bind_some, dv_dig _ (by omega), Option.map_some]; congr 1; omega
theorem pu_of_df : ∀ (l : List UInt8) (acc m : Nat), decFrom acc l = some m → l.length ≤ 8 → acc < 1000000000 * 10 ^ (8 - l.length) → parseUint10 acc l = .ok m
  | [], acc, m, h, _, _ => by simp only [decFrom] at h; obtain rfl := Option.some.inj h; rfl
  | c :: r, acc, m, h, hl, ha => by
    simp only [decFrom] at h
    cases hd : digitVal c with
    | none => rw [hd] at h; cases h
    | some d =>
      rw [hd] at h
      obtain ⟨h1, h2, h3⟩ := digitVal_eq hd
      simp only [List.length_cons] at hl ha
      have hp : 10 ^ (8 - r.length) = 10 * 10 ^ (8 - (r.length + 1)) := by
        rw [show 8 - r.length = (8 - (r.length + 1)) + 1 by omega, Nat.pow_succ]; omega
      have hb : 10 ^ (8 - (r.length + 1)) ≤ 10 ^ 7 := Nat.pow_le_pow_right (by decide) (by omega)
      have e7 : (10 : Nat) ^ 7 = 10000000 := by decide
      simp only [parseUint10]
      rw [if_pos ⟨h1, h2⟩, if_neg (by omega), if_neg (by omega), ← h3]
      exact pu_of_df r (acc * 10 + d) m h (by omega) (by rw [hp]; omega)
theorem atoi_dec (n : Nat) (h : n ≤ 999999) : atoiAll (decDigits n) = .ok (n : Int) := by
  have hl := dd_len 5 n (by omega)
  have hp : parseMag (decDigits n) = .ok n := by
    unfold parseMag
    rw [if_neg (dd_ne n)]
    exact pu_of_df _ _ _ (df_dec n) (by omega) (Nat.mul_pos (by decide) (Nat.pow_pos (by decide)))
  cases e : decDigits n with
  | nil => exact absurd e (dd_ne n)
  | cons c r =>
    have hc := dd_digit n c (by rw [e]; simp)
    rw [atoiAll_plain c r (by omega) (by omega), ← e, hp]
    simp only [signless]
    rw [if_neg (by omega)]
def numOf (l : List UInt8) : Int :=
  match atoiAll l with
  | .ok v => if v < 0 then -1 else if 999999 < v then -1 else if itoa v = l then v else -1
  | _ => -1
theorem itoa_dec (n : Nat) : itoa (n : Int) = decDigits n := by
  unfold itoa; rw [if_neg (by omega)]; rfl
theorem numOf_dec (n : Nat) (h : n ≤ 999999) : numOf (decDigits n) = n := by
  unfold numOf
  rw [atoi_dec n h]
  simp only
  rw [if_neg (by omega), if_neg (by omega), if_pos (itoa_dec n)]
end Num
section Spl
open Go.Lib
theorem index_hit (b : UInt8) (y : List UInt8) : ∀ x : List UInt8, b ∉ x → index (x ++ b :: y) [b] = (x.length : Int)
  | [], _ => by rw [List.nil_append, index]; simp [List.isPrefixOf]
  | c :: r, h => by
    have hc : c ≠ b := fun e => h (by simp [e])
    rw [List.cons_append, index, index_hit b y r (fun e => h (by simp [e]))]
    have hp : ([b] : List UInt8).isPrefixOf (c :: (r ++ b :: y)) = false := by simp [List.isPrefixOf, Ne.symm hc]
    rw [hp]
    have : ((r.length : Int) == -1) = false := by rw [beq_eq_false_iff_ne]; omega
    simp [this]
theorem cut_hit (b : UInt8) (x y : List UInt8) (h : b ∉ x) : cut (x ++ b :: y) [b] = (x, y, true) := by
  unfold cut
  rw [index_hit b y x h, if_pos (by omega)]
  simp
end Spl
section Txt
open Go.Lib
def nm (n : Int) : ByteArray := ⟨(itoa n).toArray⟩
theorem nm_size (n : Int) : (nm n).size = (itoa n).length := by simp [nm, ByteArray.size]
theorem nm_le (n : Int) (h0 : -9223372036854775808 ≤ n) (h1 : n ≤ 9223372036854775807) : (nm n).size ≤ 21 := by rw [nm_size]; exact itoa_length_le n h0 h1
theorem one_eq (d : Int) (h0 : 0 ≤ d) (h : d < 10) : strOfNums [(wrap64 (48 + d)) % 256] = ⟨#[UInt8.ofNat (48 + d.toNat)]⟩ := by
  have e : (wrap64 (48 + d)) % 256 = 48 + d := by unfold wrap64; omega
  rw [e]
  simp only [strOfNums, List.map_cons, List.map_nil]
  rw [show (48 + d).toNat = 48 + d.toNat by omega]
theorem l1Num_eq (k : Nat) : ∀ (n : Nat), n < 10 ^ (k + 1) → k ≤ 18 → ∀ K, k < K → spec_l1Num.f K (n : Int) = some (nm n) := by
  induction k with
  | zero =>
    intro n h _ K hK
    obtain ⟨K, rfl⟩ : ∃ m, K = m + 1 := ⟨K - 1, by omega⟩
    have h' : n < 10 := by simpa using h
    simp only [spec_l1Num.f]
    rw [if_pos (by omega), one_eq n (by omega) (by omega)]
    unfold nm
    rw [itoa_dec, decDigits_one h', Int.toNat_natCast]
  | succ k ih =>
    intro n h hk K hK
    obtain ⟨K, rfl⟩ : ∃ m, K = m + 1 := ⟨K - 1, by omega⟩
    simp only [spec_l1Num.f]
    by_cases c : n < 10
    · rw [if_pos (by omega), one_eq n (by omega) (by omega)]
      unfold nm
      rw [itoa_dec, decDigits_one c, Int.toNat_natCast]
    · have hn : n / 10 < 10 ^ (k + 1) := by rw [Nat.pow_succ] at h; omega
      have hp : 10 ^ (k + 1) ≤ 10 ^ 18 := Nat.pow_le_pow_right (by decide) (by omega)
      have e18 : (10 : Nat) ^ 18 = 1000000000000000000 := by decide
      have e1 : Int.tdiv (n : Int) 10 = ((n / 10 : Nat) : Int) := (Int.ofNat_tdiv n 10).symm
      have e2 : Int.tmod (n : Int) 10 = ((n % 10 : Nat) : Int) := (Int.ofNat_tmod n 10).symm
      have e3 : wrap64 (((n / 10 : Nat) : Int)) = ((n / 10 : Nat) : Int) := by unfold wrap64; omega
      rw [if_neg (by omega), e1, e3, ih (n / 10) hn (by omega) K (by omega), e2]
      simp only [Option.bind_some]
      rw [one_eq _ (by omega) (by omega)]
      have hl := dd_len k (n / 10) hn
      have hs : (nm ((n / 10 : Nat) : Int)).size = (decDigits (n / 10)).length := by rw [nm_size, itoa_dec]
      rw [if_pos (by rw [hs]; simp [ByteArray.size]; omega)]
      congr 1
      unfold nm
      rw [itoa_dec n, itoa_dec (n / 10), dd_step n c, Int.toNat_natCast]
      apply ByteArray.ext
      simp
theorem l1Num_int (a : Int) (h0 : 0 ≤ a) (h1 : a ≤ 1000000) (K : Nat) (hK : 20 ≤ K) : spec_l1Num.f K a = some (nm a) := by
  obtain ⟨n, rfl⟩ : ∃ n : Nat, a = n := ⟨a.toNat, by omega⟩
  exact l1Num_eq 18 n (by have e : (10 : Nat) ^ (18 + 1) = 10000000000000000000 := by decide
                          omega) (by omega) K (by omega)
theorem itoa_eq (a : Int) (h0 : 0 ≤ a) (h1 : a ≤ 1000000) : strconv_Itoa_108.f a = some (nm a) := by
  unfold strconv_Itoa_108.f
  rw [if_pos (by omega)]; rfl
theorem nm_le' (a : Int) (h0 : 0 ≤ a) (h1 : a ≤ 1000000) : (nm a).size ≤ 21 := nm_le a (by omega) (by omega)
end Txt
def moB (a b : Int) : Bool := decide (1 ≤ a ∧ a ≤ 500 ∧ 0 ≤ b ∧ b ≤ 20)
theorem moGood_eq (a b : Int) : spec_moGood.f a b = some (moB a b) := by
  unfold spec_moGood.f moB
  rw [in_eq, in_eq]
  simp only [Option.bind_some]
  by_cases h : 1 ≤ a ∧ a ≤ 500
  · rw [if_pos (by simpa using h)]; simp [h]
  · rw [if_neg (by simpa using h)]
    congr 1
    symm
    rw [decide_eq_false_iff_not]
    omega
theorem isMoving_eq (a b : Int) : impl_IsMoving.f a b = some (moB a b) := by
  unfold impl_IsMoving.f moB
  rw [within_eq, within_eq]
  simp only [Option.bind_some]
  by_cases h : 1 ≤ a ∧ a ≤ 500
  · rw [if_pos (by simpa using h)]; simp [h]
  · rw [if_neg (by simpa using h)]
    congr 1
    symm
    rw [decide_eq_false_iff_not]
    omega
def moTxt (a b : Int) : ByteArray := (nm a ++ (⟨#[118]⟩ : ByteArray)) ++ nm b
theorem moText_spec (a b : Int) (K : Nat) (hK : 20 ≤ K) : spec_MovingText.f K a b = some (if moB a b = true then (moTxt a b, true) else ((⟨#[]⟩ : ByteArray), false)) := by
  unfold spec_MovingText.f
  rw [moGood_eq]
  simp only [Option.bind_some]
  by_cases h : moB a b = true
  · rw [if_pos h, if_pos h]
    have h' := h
    simp only [moB, decide_eq_true_eq] at h'
    unfold spec_moText.f
    have s1 := nm_le' a (by omega) (by omega)
    have s2 := nm_le' b (by omega) (by omega)
    rw [l1Num_int a (by omega) (by omega) K hK, l1Num_int b (by omega) (by omega) K hK]
    simp only [Option.bind_some]
    rw [if_pos (by omega)]
    simp only [ByteArray.size_append]
    rw [if_pos (by have : (⟨#[118]⟩ : ByteArray).size = 1 := rfl
                   omega)]
    rfl
  · rw [if_neg h, if_neg h]
theorem moText_impl (a b : Int) : impl_MovingText.f a b = some (if moB a b = true then (moTxt a b, true) else ((⟨#[]⟩ : ByteArray), false)) := by
  unfold impl_MovingText.f
  rw [isMoving_eq]
  simp only [Option.bind_some]
  by_cases h : moB a b = true
  · rw [if_pos h, if_pos h]
    have h' := h
    simp only [moB, decide_eq_true_eq] at h'
    have s1 := nm_le' a (by omega) (by omega)
    have s2 := nm_le' b (by omega) (by omega)
    rw [itoa_eq a (by omega) (by omega), itoa_eq b (by omega) (by omega)]
    simp only [Option.bind_some]
    rw [if_pos (by omega)]
    simp only [ByteArray.size_append]
    rw [if_pos (by have : (⟨#[118]⟩ : ByteArray).size = 1 := rfl
                   omega)]
    rfl
  · rw [if_neg h, if_neg h]
section Prs2
open Go.Lib
theorem num_eq (s : ByteArray) (h : s.size ≤ 281474976710656) : impl_num.f s = some (numOf s.data.toList) := by
  unfold impl_num.f
  rw [if_pos h]
  rfl
theorem Cut_eq (s : ByteArray) (b : UInt8) (h : s.size ≤ 1048576) : strings_Cut.f s (⟨#[b]⟩ : ByteArray) = some ((⟨(cut s.data.toList [b]).1.toArray⟩ : ByteArray), (⟨(cut s.data.toList [b]).2.1.toArray⟩ : ByteArray), (cut s.data.toList [b]).2.2) := by
  unfold strings_Cut.f
  rw [if_pos (by omega)]
theorem data_mk (l : List UInt8) : (⟨l.toArray⟩ : ByteArray).data.toList = l := rfl
theorem size_mk (l : List UInt8) : (⟨l.toArray⟩ : ByteArray).size = l.length := by simp [ByteArray.size]
theorem two_of {r : List ByteArray} {x y : List UInt8} (h : r.map (·.data.toList) = [x, y]) : ∃ a b, r = [a, b] ∧ a.data.toList = x ∧ b.data.toList = y := by
  match r, h with
  | [a, b], h => simp at h; exact ⟨a, b, rfl, h.1, h.2⟩
end Prs2
section Mt1
theorem wrap_eq_iff (x y : Int) : wrap64 x = wrap64 y ↔ x % 18446744073709551616 = y % 18446744073709551616 := by
  unfold wrap64; omega
theorem wrap_emod (x : Int) : wrap64 x % 18446744073709551616 = x % 18446744073709551616 := by unfold wrap64; omega
theorem wrap_mul_l (a b : Int) : wrap64 (wrap64 a * b) = wrap64 (a * b) := by
  rw [wrap_eq_iff, Int.mul_emod, wrap_emod, ← Int.mul_emod]
theorem wrap_mul_r (a b : Int) : wrap64 (a * wrap64 b) = wrap64 (a * b) := by
  rw [Int.mul_comm, wrap_mul_l, Int.mul_comm]
theorem wrap_add_l (a b : Int) : wrap64 (wrap64 a + b) = wrap64 (a + b) := by
  rw [wrap_eq_iff, Int.add_emod, wrap_emod, ← Int.add_emod]
theorem wr0 {x : Int} (h0 : -9223372036854775808 ≤ x) (h1 : x ≤ 9223372036854775807) : wrap64 x = x := by
  unfold wrap64
  omega
def Low (n d a b : Int) : Prop := 0 ≤ a ∧ 1 ≤ b ∧ gI a b = 1 ∧ a * d = n * b ∧ b ≤ d ∧ a ≤ n
theorem low_lowP (n d : Int) (hn : 0 ≤ n) (hn2 : n ≤ 4611686018427387904) (hd : 0 < d) (hd2 : d ≤ 4611686018427387904) : Low n d (lowP n d).1 (lowP n d).2 := by
  obtain ⟨x, rfl⟩ : ∃ x : Nat, n = x := ⟨n.toNat, by omega⟩
  obtain ⟨y, rfl⟩ : ∃ y : Nat, d = y := ⟨d.toNat, by omega⟩
  have hg : 0 < Nat.gcd x y := Nat.gcd_pos_of_pos_right x (by omega)
  obtain ⟨p, hp⟩ := Nat.gcd_dvd_left x y
  obtain ⟨q, hq⟩ := Nat.gcd_dvd_right x y
  have e : gI (x : Int) (y : Int) = (Nat.gcd x y : Nat) := by unfold gI; rw [Int.toNat_natCast, Int.toNat_natCast]
  have ep : Int.tdiv (x : Int) (gI (x : Int) (y : Int)) = (p : Int) := by
    rw [e, ← Int.ofNat_tdiv]
    congr 1
    rw [Nat.div_eq_of_eq_mul_right hg hp]
  have eq : Int.tdiv (y : Int) (gI (x : Int) (y : Int)) = (q : Int) := by
    rw [e, ← Int.ofNat_tdiv]
    congr 1
    rw [Nat.div_eq_of_eq_mul_right hg hq]
  have hpx : p ≤ x := by rw [hp]; exact Nat.le_mul_of_pos_left p hg
  have hqy : q ≤ y := by rw [hq]; exact Nat.le_mul_of_pos_left q hg
  have hq1 : 1 ≤ q := by
    rcases Nat.eq_zero_or_pos q with z | z
    · subst z; rw [Nat.mul_zero] at hq; omega
    · exact z
  have hc : Nat.gcd p q = 1 := by
    have h1 : Nat.gcd (Nat.gcd x y * p) (Nat.gcd x y * q) = Nat.gcd x y * Nat.gcd p q := Nat.gcd_mul_left _ _ _
    rw [← hp, ← hq] at h1
    have h2 : Nat.gcd x y * 1 = Nat.gcd x y * Nat.gcd p q := by rw [Nat.mul_one]; exact h1
    exact (Nat.eq_of_mul_eq_mul_left hg h2).symm
  unfold Low lowP
  simp only [ep, eq]
  rw [wr0 (by omega) (by omega), wr0 (by omega) (by omega)]
  refine ⟨by omega, by omega, ?_, ?_, by omega, by omega⟩
  · unfold gI; rw [Int.toNat_natCast, Int.toNat_natCast, hc]; rfl
  · have : p * y = x * q := by
      calc p * y = p * (Nat.gcd x y * q) := by rw [← hq]
        _ = (Nat.gcd x y * p) * q := by rw [← Nat.mul_assoc, Nat.mul_comm p]
        _ = x * q := by rw [← hp]
    exact_mod_cast this
theorem lowP_scale (c n d : Int) (hc : 0 < c) (hn : 0 ≤ n) (hd : 0 < d) : lowP (c * n) (c * d) = lowP n d := by
  obtain ⟨z, rfl⟩ : ∃ z : Nat, c = z := ⟨c.toNat, by omega⟩
  obtain ⟨x, rfl⟩ : ∃ x : Nat, n = x := ⟨n.toNat, by omega⟩
  obtain ⟨y, rfl⟩ : ∃ y : Nat, d = y := ⟨d.toNat, by omega⟩
  have e1 : (z : Int) * x = ((z * x : Nat) : Int) := by simp
  have e2 : (z : Int) * y = ((z * y : Nat) : Int) := by simp
  have hz : 0 < z := by omega
  unfold lowP gI
  rw [e1, e2]
  simp only [Int.toNat_natCast, Nat.gcd_mul_left, ← Int.ofNat_tdiv, Nat.mul_div_mul_left _ _ hz]
theorem lLow_l (d : Nat) : ∀ (k : Nat) (a b : Int), 0 ≤ a → 0 ≤ b → b ≤ d → d < k → laws_lLow.l0 k a b = some (gI a b == 1) := by
  induction d with
  | zero =>
    intro k a b ha hb hd hk
    obtain ⟨k, rfl⟩ : ∃ m, k = m + 1 := ⟨k - 1, by omega⟩
    obtain rfl : b = 0 := by omega
    simp only [laws_lLow.l0]
    rw [if_neg (by omega), gI_zero a ha]
  | succ d ih =>
    intro k a b ha hb hd hk
    obtain ⟨k, rfl⟩ : ∃ m, k = m + 1 := ⟨k - 1, by omega⟩
    simp only [laws_lLow.l0]
    by_cases h : b = 0
    · subst h
      rw [if_neg (by omega), gI_zero a ha]
    · have z := tmod_nn a b ha (by omega)
      rw [if_pos (by omega), if_neg h, ih k b _ (by omega) z.1 (by omega) (by omega), gI_step a b ha (by omega)]
theorem lLow_val (k : Nat) (a b : Int) (ha : 0 ≤ a) (hb : 1 ≤ b) (hg : gI a b = 1) (hk : b.toNat + 1 < k) : laws_lLow.f k a b = some true := by
  obtain ⟨k, rfl⟩ : ∃ m, k = m + 1 := ⟨k - 1, by omega⟩
  unfold laws_lLow.f
  rw [if_neg (by omega)]
  simp only [laws_lLow.j0]
  rw [if_neg (by simp; omega), lLow_l b.toNat k a b ha (by omega) (by omega) (by omega), hg]
  rfl
theorem lIs_val (k : Nat) (a b x y : Int) (ha : 0 ≤ a) (hb : 1 ≤ b) (hg : gI a b = 1) (hk : b.toNat + 1 < k) (he : wrap64 (a * y) = wrap64 (x * b)) : laws_lIs.f k a b x y = some true := by
  unfold laws_lIs.f
  rw [lLow_val k a b ha hb hg hk]
  simp only [Option.bind_some, if_true, he, beq_self_eq_true]
end Mt1
section Mt2
theorem mulb {a b A B : Int} (h0 : 0 ≤ a) (h1 : a ≤ A) (h2 : 0 ≤ b) (h3 : b ≤ B) : 0 ≤ a * b ∧ a * b ≤ A * B :=
  ⟨Int.mul_nonneg h0 h2, Int.mul_le_mul h1 h3 h2 (by omega)⟩
def asked (V S p : Int) : Bool := moB V S && decide (0 ≤ p ∧ p ≤ 20)
def W (c : Bool) (n d : Int) : Int × Int × Bool := if c = true then ((lowP n d).1, (lowP n d).2, true) else (0, 0, false)
theorem moB_b {V S : Int} (h : moB V S = true) : 1 ≤ V ∧ V ≤ 500 ∧ 0 ≤ S ∧ S ≤ 20 := by
  simpa only [moB, decide_eq_true_eq] using h
theorem asked_b {V S p : Int} (h : asked V S p = true) : 1 ≤ V ∧ V ≤ 500 ∧ 0 ≤ S ∧ S ≤ 20 ∧ 0 ≤ p ∧ p ≤ 20 := by
  unfold asked at h
  rw [Bool.and_eq_true] at h
  have := moB_b h.1
  have h2 := of_decide_eq_true h.2
  omega
theorem implAsk {α : Type} (V S p : Int) (A B : Option α) (hB : True) : ((impl_IsMoving.f V S).bind fun t => if t = true then ((impl_isPace.f p).bind fun u => if u = true then A else B) else B) = if asked V S p = true then A else B := by
  unfold impl_isPace.f asked
  rw [isMoving_eq, within_eq]
  simp only [Option.bind_some]
  by_cases c : moB V S = true
  · rw [if_pos c, c, Bool.true_and]
  · rw [if_neg c, Bool.eq_false_iff.2 c, Bool.false_and, if_neg (by simp)]
theorem specAsk (V S p : Int) : spec_moAsked.f V S p = some (asked V S p) := by
  unfold spec_moAsked.f asked
  rw [moGood_eq, in_eq]
  simp only [Option.bind_some]
  by_cases c : moB V S = true
  · rw [if_pos c, c, Bool.true_and]
  · rw [if_neg c, Bool.eq_false_iff.2 c, Bool.false_and]
theorem part_W (k : Nat) (n d : Int) (hn : 0 ≤ n) (hk : d.toNat < k) : ((impl_part.f k n d).bind fun bt => some (bt.1, bt.2.1, bt.2.2)) = some (W (decide (0 < d)) n d) := by
  by_cases c : 0 < d
  · rw [part_val k n d hn c hk, decide_eq_true c]; rfl
  · rw [part_none k n d (by omega), decide_eq_false c]; rfl
theorem moLow_W (k : Nat) (n d : Int) (hn : 0 ≤ n) (hd : 0 < d) (hk : d.toNat < k) : ((spec_moLow.f k n d).bind fun bt => some (bt.1, bt.2, true)) = some (W (decide (0 < d)) n d) := by
  rw [moLow_val k n d hn hd hk, decide_eq_true hd]; rfl
theorem W_and (a b : Bool) (n d : Int) : (if a = true then some (W b n d) else some (0, 0, false)) = some (W (a && b) n d) := by
  cases a <;> rfl
theorem timeWith_i (k : Nat) (hk : 100 ≤ k) (V S p : Int) : impl_TimeWith.f k V S p = some (W (asked V S p && decide (0 < S + p)) V (S + p)) := by
  unfold impl_TimeWith.f
  rw [implAsk _ _ _ _ _ trivial, ← W_and]
  by_cases c : asked V S p = true
  · have b := asked_b c
    rw [if_pos c, if_pos c, wr0 (x := S + p) (by omega) (by omega), part_W k _ _ (by omega) (by omega)]
  · rw [if_neg c, if_neg c]
theorem stepsWith_i (k : Nat) (hk : 100 ≤ k) (V S p : Int) : impl_StepsWith.f k V S p = some (W (asked V S p && decide (0 < S + p)) (p * V) (S + p)) := by
  unfold impl_StepsWith.f
  rw [implAsk _ _ _ _ _ trivial, ← W_and]
  by_cases c : asked V S p = true
  · have b := asked_b c
    have m := mulb (a := p) (b := V) (A := 20) (B := 500) (by omega) (by omega) (by omega) (by omega)
    rw [if_pos c, if_pos c, wr0 (x := S + p) (by omega) (by omega), wr0 (x := p * V) (by omega) (by omega), part_W k _ _ (by omega) (by omega)]
  · rw [if_neg c, if_neg c]
theorem timeAgainst_i (k : Nat) (hk : 100 ≤ k) (V S p : Int) : impl_TimeAgainst.f k V S p = some (W (asked V S p && decide (0 < p - S)) V (p - S)) := by
  unfold impl_TimeAgainst.f
  rw [implAsk _ _ _ _ _ trivial, ← W_and]
  by_cases c : asked V S p = true
  · have b := asked_b c
    rw [if_pos c, if_pos c, wr0 (x := p - S) (by omega) (by omega), part_W k _ _ (by omega) (by omega)]
  · rw [if_neg c, if_neg c]
theorem stepsAgainst_i (k : Nat) (hk : 100 ≤ k) (V S p : Int) : impl_StepsAgainst.f k V S p = some (W (asked V S p && decide (0 < p - S)) (p * V) (p - S)) := by
  unfold impl_StepsAgainst.f
  rw [implAsk _ _ _ _ _ trivial, ← W_and]
  by_cases c : asked V S p = true
  · have b := asked_b c
    have m := mulb (a := p) (b := V) (A := 20) (B := 500) (by omega) (by omega) (by omega) (by omega)
    rw [if_pos c, if_pos c, wr0 (x := p - S) (by omega) (by omega), wr0 (x := p * V) (by omega) (by omega), part_W k _ _ (by omega) (by omega)]
  · rw [if_neg c, if_neg c]
theorem roundTrip_i (k : Nat) (hk : 100 ≤ k) (V S p : Int) : impl_RoundTrip.f k V S p = some (W (asked V S p && decide (0 < S + p)) (2 * V) (S + p)) := by
  unfold impl_RoundTrip.f
  rw [implAsk _ _ _ _ _ trivial, ← W_and]
  by_cases c : asked V S p = true
  · have b := asked_b c
    rw [if_pos c, if_pos c, wr0 (x := S + p) (by omega) (by omega), wr0 (x := 2 * V) (by omega) (by omega), part_W k _ _ (by omega) (by omega)]
  · rw [if_neg c, if_neg c]
theorem timeWith_s (k : Nat) (hk : 100 ≤ k) (V S p : Int) : spec_TimeWith.f k V S p = some (W (asked V S p && decide (0 < S + p)) V (S + p)) := by
  unfold spec_TimeWith.f
  rw [specAsk, ← W_and]
  simp only [Option.bind_some]
  by_cases c : asked V S p = true
  · have b := asked_b c
    rw [if_pos c, if_pos c, wr0 (x := S + p) (by omega) (by omega)]
    by_cases h : S + p = 0
    · rw [if_pos h, decide_eq_false (by omega)]; rfl
    · rw [if_neg h, moLow_W k _ _ (by omega) (by omega) (by omega)]
  · rw [if_neg c, if_neg c]
theorem stepsWith_s (k : Nat) (hk : 100 ≤ k) (V S p : Int) : spec_StepsWith.f k V S p = some (W (asked V S p && decide (0 < S + p)) (p * V) (S + p)) := by
  unfold spec_StepsWith.f
  rw [specAsk, ← W_and]
  simp only [Option.bind_some]
  by_cases c : asked V S p = true
  · have b := asked_b c
    have m := mulb (a := p) (b := V) (A := 20) (B := 500) (by omega) (by omega) (by omega) (by omega)
    rw [if_pos c, if_pos c, wr0 (x := S + p) (by omega) (by omega), Int.mul_comm V p, wr0 (x := p * V) (by omega) (by omega)]
    by_cases h : S + p = 0
    · rw [if_pos h, decide_eq_false (by omega)]; rfl
    · rw [if_neg h, moLow_W k _ _ (by omega) (by omega) (by omega)]
  · rw [if_neg c, if_neg c]
theorem timeAgainst_s (k : Nat) (hk : 100 ≤ k) (V S p : Int) : spec_TimeAgainst.f k V S p = some (W (asked V S p && decide (0 < p - S)) V (p - S)) := by
  unfold spec_TimeAgainst.f
  rw [specAsk, ← W_and]
  simp only [Option.bind_some]
  by_cases c : asked V S p = true
  · have b := asked_b c
    rw [if_pos c, if_pos c]
    by_cases h : p ≤ S
    · rw [if_pos h, decide_eq_false (by omega)]; rfl
    · rw [if_neg h, wr0 (x := p - S) (by omega) (by omega), moLow_W k _ _ (by omega) (by omega) (by omega)]
  · rw [if_neg c, if_neg c]
theorem stepsAgainst_s (k : Nat) (hk : 100 ≤ k) (V S p : Int) : spec_StepsAgainst.f k V S p = some (W (asked V S p && decide (0 < p - S)) (p * V) (p - S)) := by
  unfold spec_StepsAgainst.f
  rw [specAsk, ← W_and]
  simp only [Option.bind_some]
  by_cases c : asked V S p = true
  · have b := asked_b c
    have m := mulb (a := p) (b := V) (A := 20) (B := 500) (by omega) (by omega) (by omega) (by omega)
    rw [if_pos c, if_pos c]
    by_cases h : p ≤ S
    · rw [if_pos h, decide_eq_false (by omega)]; rfl
    · rw [if_neg h, wr0 (x := p - S) (by omega) (by omega), Int.mul_comm V p, wr0 (x := p * V) (by omega) (by omega), moLow_W k _ _ (by omega) (by omega) (by omega)]
  · rw [if_neg c, if_neg c]
theorem roundTrip_s (k : Nat) (hk : 100 ≤ k) (V S p : Int) : spec_RoundTrip.f k V S p = some (W (asked V S p && decide (0 < S + p)) (2 * V) (S + p)) := by
  unfold spec_RoundTrip.f
  rw [specAsk, ← W_and]
  simp only [Option.bind_some]
  by_cases c : asked V S p = true
  · have b := asked_b c
    rw [if_pos c, if_pos c, wr0 (x := S + p) (by omega) (by omega), wr0 (x := 2 * V) (by omega) (by omega)]
    by_cases h : S + p = 0
    · rw [if_pos h, decide_eq_false (by omega)]; rfl
    · rw [if_neg h, moLow_W k _ _ (by omega) (by omega) (by omega)]
  · rw [if_neg c, if_neg c]
end Mt2
section Mt3
def pfs (V S n : Int) : Bool := moB V S && (decide (0 ≤ n ∧ n ≤ V - 1) && !decide (S = 0))
theorem paceForSteps_i (k : Nat) (hk : 1000 ≤ k) (V S n : Int) : impl_PaceForSteps.f k V S n = some (W (pfs V S n) (n * S) (V - n)) := by
  unfold impl_PaceForSteps.f pfs
  rw [isMoving_eq, within_eq, ← W_and]
  simp only [Option.bind_some]
  by_cases c : moB V S = true
  · have b := moB_b c
    rw [if_pos c, if_pos c, wr0 (x := V - 1) (by omega) (by omega), ← W_and]
    by_cases c2 : 0 ≤ n ∧ n ≤ V - 1
    · rw [if_pos (decide_eq_true c2), if_pos (decide_eq_true c2)]
      have m := mulb (a := n) (b := S) (A := 500) (B := 20) (by omega) (by omega) (by omega) (by omega)
      by_cases c3 : S = 0
      · rw [if_pos c3, decide_eq_true c3]; rfl
      · rw [if_neg c3, wr0 (x := n * S) (by omega) (by omega), wr0 (x := V - n) (by omega) (by omega), part_W k _ _ (by omega) (by omega), decide_eq_true (show 0 < V - n by omega), decide_eq_false c3]; rfl
    · rw [if_neg (mt of_decide_eq_true c2), if_neg (mt of_decide_eq_true c2)]
  · rw [if_neg c, if_neg c]
theorem paceForSteps_s (k : Nat) (hk : 1000 ≤ k) (V S n : Int) : spec_PaceForSteps.f k V S n = some (W (pfs V S n) (n * S) (V - n)) := by
  unfold spec_PaceForSteps.f pfs
  rw [moGood_eq, in_eq, ← W_and]
  simp only [Option.bind_some]
  by_cases c : moB V S = true
  · have b := moB_b c
    rw [if_pos c, if_pos c, wr0 (x := V - 1) (by omega) (by omega), ← W_and]
    by_cases c2 : 0 ≤ n ∧ n ≤ V - 1
    · rw [if_pos (decide_eq_true c2), if_pos (decide_eq_true c2)]
      have m := mulb (a := n) (b := S) (A := 500) (B := 20) (by omega) (by omega) (by omega) (by omega)
      by_cases c3 : S = 0
      · rw [if_pos c3, decide_eq_true c3]; rfl
      · rw [if_neg c3, wr0 (x := n * S) (by omega) (by omega), wr0 (x := V - n) (by omega) (by omega), moLow_W k _ _ (by omega) (by omega) (by omega), decide_eq_true (show 0 < V - n by omega), decide_eq_false c3]; rfl
    · rw [if_neg (mt of_decide_eq_true c2), if_neg (mt of_decide_eq_true c2)]
  · rw [if_neg c, if_neg c]
def vfb (z w a : Int) : Bool := decide (1 ≤ z ∧ z ≤ 20) && (decide (1 ≤ w ∧ w ≤ 10000) && decide (w ≤ a ∧ a ≤ 10000))
theorem isCount_eq (n : Int) : impl_isCount.f n = some (decide (1 ≤ n ∧ n ≤ 10000)) := by
  unfold impl_isCount.f; rw [within_eq]; rfl
theorem visibleFromBoth_i (k : Nat) (hk : 30000 ≤ k) (z w a : Int) : impl_VisibleFromBoth.f k z w a = some (W (vfb z w a) (2 * w * a) (w + a)) := by
  unfold impl_VisibleFromBoth.f vfb
  rw [within_eq, isCount_eq, isCount_eq, ← W_and]
  simp only [Option.bind_some]
  by_cases c : 1 ≤ z ∧ z ≤ 20
  · rw [if_pos (decide_eq_true c), if_pos (decide_eq_true c), ← W_and]
    by_cases c2 : 1 ≤ w ∧ w ≤ 10000
    · rw [if_pos (decide_eq_true c2), if_pos (decide_eq_true c2)]
      by_cases c3 : 1 ≤ a ∧ a ≤ 10000
      · rw [if_pos (decide_eq_true c3)]
        by_cases c4 : a < w
        · rw [if_pos c4, decide_eq_false (by omega)]; rfl
        · have m := mulb (a := 2 * w) (b := a) (A := 20000) (B := 10000) (by omega) (by omega) (by omega) (by omega)
          rw [if_neg c4, wr0 (x := 2 * w) (by omega) (by omega), wr0 (x := 2 * w * a) (by omega) (by omega), wr0 (x := w + a) (by omega) (by omega), part_W k _ _ (by omega) (by omega), decide_eq_true (show 0 < w + a by omega), decide_eq_true (show w ≤ a ∧ a ≤ 10000 by omega)]
      · rw [if_neg (mt of_decide_eq_true c3), decide_eq_false (by omega)]; rfl
    · rw [if_neg (mt of_decide_eq_true c2), if_neg (mt of_decide_eq_true c2)]
  · rw [if_neg (mt of_decide_eq_true c), if_neg (mt of_decide_eq_true c)]
theorem visibleFromBoth_s (k : Nat) (hk : 30000 ≤ k) (z w a : Int) : spec_VisibleFromBoth.f k z w a = some (W (vfb z w a) (2 * w * a) (w + a)) := by
  unfold spec_VisibleFromBoth.f vfb
  rw [in_eq, in_eq, in_eq, ← W_and]
  simp only [Option.bind_some]
  by_cases c : 1 ≤ z ∧ z ≤ 20
  · rw [if_pos (decide_eq_true c), if_pos (decide_eq_true c), ← W_and]
    by_cases c2 : 1 ≤ w ∧ w ≤ 10000
    · rw [if_pos (decide_eq_true c2), if_pos (decide_eq_true c2)]
      by_cases c3 : w ≤ a ∧ a ≤ 10000
      · have m := mulb (a := 2 * w) (b := a) (A := 20000) (B := 10000) (by omega) (by omega) (by omega) (by omega)
        rw [if_pos (decide_eq_true c3), wr0 (x := 2 * w) (by omega) (by omega), wr0 (x := 2 * w * a) (by omega) (by omega), wr0 (x := w + a) (by omega) (by omega), moLow_W k _ _ (by omega) (by omega) (by omega), decide_eq_true (show 0 < w + a by omega), decide_eq_true c3]
      · rw [if_neg (mt of_decide_eq_true c3), decide_eq_false c3]; rfl
    · rw [if_neg (mt of_decide_eq_true c2), if_neg (mt of_decide_eq_true c2)]
  · rw [if_neg (mt of_decide_eq_true c), if_neg (mt of_decide_eq_true c)]
def two (p x q y : Int) : Bool := decide ((1 ≤ p ∧ p ≤ 20) ∧ (p < q ∧ q ≤ 20) ∧ (1 ≤ x ∧ x ≤ 10000) ∧ x < y ∧ y ≤ 10000)
theorem areTwo_eq (p x q y : Int) : impl_areTwo.f p x q y = some (two p x q y) := by
  unfold impl_areTwo.f impl_isPace.f two
  rw [within_eq, within_eq, isCount_eq, isCount_eq]
  simp only [Option.bind_some, decide_eq_true_eq]
  by_cases h1 : 1 ≤ p ∧ p ≤ 20
  · rw [if_pos h1]
    by_cases h2 : 0 ≤ q ∧ q ≤ 20
    · rw [if_pos h2]
      by_cases h3 : q > p
      · rw [if_pos h3]
        by_cases h4 : 1 ≤ x ∧ x ≤ 10000
        · rw [if_pos h4]
          by_cases h5 : 1 ≤ y ∧ y ≤ 10000
          · rw [if_pos h5]; congr 1; rw [decide_eq_decide]; omega
          · rw [if_neg h5]; congr 1; symm; rw [decide_eq_false_iff_not]; omega
        · rw [if_neg h4]; congr 1; symm; rw [decide_eq_false_iff_not]; omega
      · rw [if_neg h3]; congr 1; symm; rw [decide_eq_false_iff_not]; omega
    · rw [if_neg h2]; congr 1; symm; rw [decide_eq_false_iff_not]; omega
  · rw [if_neg h1]; congr 1; symm; rw [decide_eq_false_iff_not]; omega
theorem two_b {p x q y : Int} (h : two p x q y = true) : 1 ≤ p ∧ p < q ∧ q ≤ 20 ∧ 1 ≤ x ∧ x < y ∧ y ≤ 10000 := by
  have := of_decide_eq_true h; omega
theorem two_sz {p x q y : Int} (h : two p x q y = true) : (0 ≤ x * q ∧ x * q ≤ 200000) ∧ (0 ≤ y * p ∧ y * p ≤ 200000) ∧ (0 ≤ (y - x) * p ∧ (y - x) * p ≤ 200000) ∧ (0 ≤ (y - x) * p * q ∧ (y - x) * p * q ≤ 4000000) ∧ (0 ≤ x * y ∧ x * y ≤ 100000000) ∧ (0 ≤ x * y * (q - p) ∧ x * y * (q - p) ≤ 2000000000) := by
  have b := two_b h
  have m1 := mulb (a := x) (b := q) (A := 10000) (B := 20) (by omega) (by omega) (by omega) (by omega)
  have m2 := mulb (a := y) (b := p) (A := 10000) (B := 20) (by omega) (by omega) (by omega) (by omega)
  have m3 := mulb (a := y - x) (b := p) (A := 10000) (B := 20) (by omega) (by omega) (by omega) (by omega)
  have m4 := mulb (a := (y - x) * p) (b := q) (A := 200000) (B := 20) (by omega) (by omega) (by omega) (by omega)
  have m5 := mulb (a := x) (b := y) (A := 10000) (B := 10000) (by omega) (by omega) (by omega) (by omega)
  have m6 := mulb (a := x * y) (b := q - p) (A := 100000000) (B := 20) (by omega) (by omega) (by omega) (by omega)
  exact ⟨by omega, by omega, by omega, by omega, by omega, by omega⟩
theorem moTwo_eq (k : Nat) (hk : 1 ≤ k) (p x q y : Int) : spec_moTwo.f k p x q y = some (if two p x q y = true ∧ 0 < x * q - y * p then ((y - x) * p * q, x * q - y * p, true) else (0, 0, false)) := by
  obtain ⟨k, rfl⟩ : ∃ m, k = m + 1 := ⟨k - 1, by omega⟩
  by_cases h : two p x q y = true
  · have b := two_b h
    have z := two_sz h
    unfold spec_moTwo.f
    rw [in_eq, in_eq, in_eq, in_eq, wr0 (x := p + 1) (by omega) (by omega), wr0 (x := x + 1) (by omega) (by omega)]
    simp only [Option.bind_some]
    rw [if_pos (decide_eq_true (by omega)), if_pos (decide_eq_true (by omega)), if_pos (decide_eq_true (by omega)), decide_eq_true (show x + 1 ≤ y ∧ y ≤ 10000 by omega)]
    simp only [spec_moTwo.j0]
    rw [if_neg (by simp), wr0 (x := x * q) (by omega) (by omega), wr0 (x := y * p) (by omega) (by omega), wr0 (x := x * q - y * p) (by omega) (by omega), wr0 (x := y - x) (by omega) (by omega), wr0 (x := (y - x) * p) (by omega) (by omega), wr0 (x := (y - x) * p * q) (by omega) (by omega)]
    by_cases c : 0 < x * q - y * p
    · rw [if_neg (by omega), if_pos ⟨h, c⟩]
    · rw [if_pos (by omega), if_neg (fun e => c e.2)]
  · rw [if_neg (fun e => h e.1)]
    have h' : ¬ ((1 ≤ p ∧ p ≤ 20) ∧ (p < q ∧ q ≤ 20) ∧ (1 ≤ x ∧ x ≤ 10000) ∧ x < y ∧ y ≤ 10000) := fun e => h (decide_eq_true e)
    unfold spec_moTwo.f
    rw [in_eq, in_eq, in_eq, in_eq]
    simp only [Option.bind_some, decide_eq_true_eq]
    by_cases c1 : 1 ≤ p ∧ p ≤ 20
    · rw [if_pos c1, wr0 (x := p + 1) (by omega) (by omega)]
      by_cases c2 : p + 1 ≤ q ∧ q ≤ 20
      · rw [if_pos c2]
        by_cases c3 : 1 ≤ x ∧ x ≤ 10000
        · rw [if_pos c3, wr0 (x := x + 1) (by omega) (by omega), decide_eq_false (by omega)]
          simp only [spec_moTwo.j0]
          rfl
        · rw [if_neg c3]; simp only [spec_moTwo.j0]; rfl
      · rw [if_neg c2]; simp only [spec_moTwo.j0]; rfl
    · rw [if_neg c1]; simp only [spec_moTwo.j0]; rfl
def twoB (p x q y : Int) : Bool := two p x q y && decide (0 < x * q - y * p)
theorem visibleFromTwo_i (k : Nat) (hk : 300000 ≤ k) (p x q y : Int) : impl_VisibleFromTwo.f k p x q y = some (W (twoB p x q y) (x * y * (q - p)) (x * q - y * p)) := by
  unfold impl_VisibleFromTwo.f twoB
  rw [areTwo_eq, ← W_and]
  simp only [Option.bind_some]
  by_cases h : two p x q y = true
  · have b := two_b h
    have z := two_sz h
    rw [if_pos h, if_pos h, wr0 (x := x * y) (by omega) (by omega), wr0 (x := q - p) (by omega) (by omega), wr0 (x := x * y * (q - p)) (by omega) (by omega), wr0 (x := x * q) (by omega) (by omega), wr0 (x := y * p) (by omega) (by omega), wr0 (x := x * q - y * p) (by omega) (by omega), part_W k _ _ (by omega) (by omega)]
  · rw [if_neg h, if_neg h]
theorem speedFromTwo_i (k : Nat) (hk : 300000 ≤ k) (p x q y : Int) : impl_SpeedFromTwo.f k p x q y = some (W (twoB p x q y) ((y - x) * p * q) (x * q - y * p)) := by
  unfold impl_SpeedFromTwo.f twoB
  rw [areTwo_eq, ← W_and]
  simp only [Option.bind_some]
  by_cases h : two p x q y = true
  · have b := two_b h
    have z := two_sz h
    rw [if_pos h, if_pos h, wr0 (x := y - x) (by omega) (by omega), wr0 (x := (y - x) * p) (by omega) (by omega), wr0 (x := (y - x) * p * q) (by omega) (by omega), wr0 (x := x * q) (by omega) (by omega), wr0 (x := y * p) (by omega) (by omega), wr0 (x := x * q - y * p) (by omega) (by omega), part_W k _ _ (by omega) (by omega)]
  · rw [if_neg h, if_neg h]
theorem twoB_iff (p x q y : Int) : twoB p x q y = true ↔ two p x q y = true ∧ 0 < x * q - y * p := by
  unfold twoB; rw [Bool.and_eq_true, decide_eq_true_eq]
theorem speedFromTwo_s (k : Nat) (hk : 300000 ≤ k) (p x q y : Int) : spec_SpeedFromTwo.f k p x q y = some (W (twoB p x q y) ((y - x) * p * q) (x * q - y * p)) := by
  unfold spec_SpeedFromTwo.f
  rw [moTwo_eq k (by omega)]
  simp only [Option.bind_some]
  by_cases h : two p x q y = true ∧ 0 < x * q - y * p
  · have z := two_sz h.1
    rw [if_pos h, (twoB_iff p x q y).2 h]
    simp only [if_true]
    rw [moLow_W k _ _ (by omega) h.2 (by omega), decide_eq_true h.2]
  · rw [if_neg h, Bool.eq_false_iff.2 (fun e => h ((twoB_iff p x q y).1 e))]; rfl
theorem two_id (p x q y : Int) : p * (x * q - y * p) + (y - x) * p * q = p * (y * (q - p)) := by
  rw [Int.mul_sub, Int.sub_mul, Int.sub_mul, Int.mul_sub, Int.mul_sub]
  have e1 : y * p * q = p * (y * q) := by rw [Int.mul_comm y p, Int.mul_assoc]
  have e2 : x * p * q = p * (x * q) := by rw [Int.mul_comm x p, Int.mul_assoc]
  omega
theorem visibleFromTwo_s (k : Nat) (hk : 5000000 ≤ k) (p x q y : Int) : spec_VisibleFromTwo.f k p x q y = some (W (twoB p x q y) (x * y * (q - p)) (x * q - y * p)) := by
  unfold spec_VisibleFromTwo.f
  rw [moTwo_eq k (by omega)]
  simp only [Option.bind_some]
  by_cases h : two p x q y = true ∧ 0 < x * q - y * p
  · have z := two_sz h.1
    have b := two_b h.1
    rw [if_pos h, (twoB_iff p x q y).2 h]
    simp only [if_true]
    have m1 := mulb (a := p) (b := x * q - y * p) (A := 20) (B := 200000) (by omega) (by omega) (by omega) (by omega)
    have m2 := mulb (a := x) (b := p * (x * q - y * p) + (y - x) * p * q) (A := 10000) (B := 8000000) (by omega) (by omega) (by omega) (by omega)
    have hp : 0 < p * (x * q - y * p) := Int.mul_pos (by omega) h.2
    rw [wr0 (x := p * (x * q - y * p)) (by omega) (by omega), wr0 (x := p * (x * q - y * p) + (y - x) * p * q) (by omega) (by omega), wr0 (x := x * (p * (x * q - y * p) + (y - x) * p * q)) (by omega) (by omega)]
    rw [moLow_W k _ _ (by omega) hp (by omega), decide_eq_true hp]
    have e : x * (p * (x * q - y * p) + (y - x) * p * q) = p * (x * y * (q - p)) := by
      rw [two_id, ← Int.mul_assoc, Int.mul_comm x p, Int.mul_assoc, Int.mul_assoc]
    rw [e]
    unfold W
    rw [if_pos rfl, if_pos rfl, lowP_scale p _ _ (by omega) (by omega) h.2]
  · rw [if_neg h, Bool.eq_false_iff.2 (fun e => h ((twoB_iff p x q y).1 e))]; rfl
theorem placeAt_i (V S p t : Int) : impl_PlaceAt.f V S p t = some (if asked V S p = true ∧ 0 ≤ t ∧ t ≤ 1000 then (mn V ((S + p) * t), true) else (0, false)) := by
  unfold impl_PlaceAt.f
  rw [implAsk _ _ _ _ _ trivial, within_eq]
  simp only [Option.bind_some, decide_eq_true_eq]
  by_cases c : asked V S p = true
  · have b := asked_b c
    rw [if_pos c]
    by_cases c2 : 0 ≤ t ∧ t ≤ 1000
    · have m := mulb (a := S + p) (b := t) (A := 40) (B := 1000) (by omega) (by omega) (by omega) (by omega)
      rw [if_pos c2, if_pos ⟨c, c2⟩, wr0 (x := S + p) (by omega) (by omega), wr0 (x := (S + p) * t) (by omega) (by omega)]
    · rw [if_neg c2, if_neg (fun e => c2 e.2)]
  · rw [if_neg c, if_neg (fun e => c e.1)]
end Mt3
section Mt4
theorem L1 {a b c e D V p : Int} (h1 : a * D = V * b) (h2 : c * D = p * V * e) (hD : D ≠ 0) : c * b = p * a * e := by
  apply Int.eq_of_mul_eq_mul_right hD
  have e1 := congrArg (· * b) h2
  have e2 := congrArg (· * (p * e)) h1
  simp only [Int.mul_assoc, Int.mul_comm, Int.mul_left_comm] at e1 e2 ⊢
  omega
theorem L3 {c D V p S u v : Int} (h2 : c * D = p * V) (hd : D = S + p) (h3 : u * (V - c) = c * S * v) (h0 : V - c ≠ 0) : u = p * v := by
  apply Int.eq_of_mul_eq_mul_right h0
  subst hd
  have e1 := congrArg (· * v) h2
  simp only [Int.mul_sub, Int.sub_mul, Int.mul_add, Int.add_mul, Int.mul_assoc, Int.mul_comm, Int.mul_left_comm] at e1 h3 ⊢
  omega
theorem L4 {a b D V t : Int} (h1 : a * D = V * b) (hb : 0 < b) (hD : 0 ≤ D) (ht : a ≤ t * b) : V ≤ D * t := by
  apply Int.le_of_mul_le_mul_right (a := b) _ hb
  have e := Int.mul_le_mul_of_nonneg_right ht hD
  simp only [Int.mul_assoc, Int.mul_comm, Int.mul_left_comm] at e h1 ⊢
  omega
theorem L5 {a b D V f g E : Int} (h1 : a * D = V * b) (h2 : f * E = V * g) (hE : 0 < E) (hD : E ≤ D) (hV : 0 ≤ V) (hb : 0 ≤ b) (hg : 0 ≤ g) : a * g ≤ f * b := by
  apply Int.le_of_mul_le_mul_right (a := E * D) _ (Int.mul_pos hE (by omega))
  have e1 := congrArg (· * (g * E)) h1
  have e2 := congrArg (· * (b * D)) h2
  have e3 := Int.mul_le_mul_of_nonneg_left hD (Int.mul_nonneg (Int.mul_nonneg hV hb) hg)
  simp only [Int.mul_assoc, Int.mul_comm, Int.mul_left_comm] at e1 e2 e3 ⊢
  omega
theorem L6a {c D V p h E : Int} (h1 : c * D = p * V) (h2 : h * E = p * V) (h3 : D + E = 2 * p) (hp : p ≠ 0) : V * (c + h) = 2 * c * h := by
  apply Int.eq_of_mul_eq_mul_right hp
  have e1 := congrArg (· * h) h1
  have e2 := congrArg (· * c) h2
  have e3 := congrArg (· * (c * h)) h3
  simp only [Int.mul_add, Int.add_mul, Int.mul_assoc, Int.mul_comm, Int.mul_left_comm] at e1 e2 e3 ⊢
  omega
theorem L6 {c V h n k : Int} (h1 : V * (c + h) = 2 * c * h) (h2 : n * (c + h) = 2 * c * h * k) (h0 : c + h ≠ 0) : n * 1 = V * k := by
  apply Int.eq_of_mul_eq_mul_right h0
  have e1 := congrArg (· * k) h1
  simp only [Int.mul_add, Int.add_mul, Int.mul_assoc, Int.mul_comm, Int.mul_left_comm, Int.mul_one] at e1 h2 ⊢
  omega
theorem L7a {n k s f p q x y : Int} (h0 : x * q - y * p ≠ 0) (h1 : n * (x * q - y * p) = x * y * (q - p) * k) (h2 : s * (x * q - y * p) = (y - x) * p * q * f) : n * p * f = x * (p * f + s) * k := by
  apply Int.eq_of_mul_eq_mul_right h0
  have e1 := congrArg (· * (p * f)) h1
  have e2 := congrArg (· * (x * k)) h2
  simp only [Int.mul_sub, Int.sub_mul, Int.mul_add, Int.add_mul, Int.mul_assoc, Int.mul_comm, Int.mul_left_comm] at e1 e2 ⊢
  omega
theorem L7b {n k s f p q x y : Int} (h0 : x * q - y * p ≠ 0) (h1 : n * (x * q - y * p) = x * y * (q - p) * k) (h2 : s * (x * q - y * p) = (y - x) * p * q * f) : n * q * f = y * (q * f + s) * k := by
  apply Int.eq_of_mul_eq_mul_right h0
  have e1 := congrArg (· * (q * f)) h1
  have e2 := congrArg (· * (y * k)) h2
  simp only [Int.mul_sub, Int.sub_mul, Int.mul_add, Int.add_mul, Int.mul_assoc, Int.mul_comm, Int.mul_left_comm] at e1 e2 ⊢
  omega
theorem L8 {w a b h : Int} (h1 : b * (w + a) = 2 * w * a * h) (hw : 0 < w) (hwa : w ≤ a) (hh : 0 ≤ h) : w * h ≤ b ∧ b ≤ a * h := by
  have d : 0 ≤ a - w := by omega
  have e2 : 2 * w * a * h = w * a * h + w * a * h := by simp only [Int.mul_assoc]; omega
  rw [e2] at h1
  have m1 := Int.mul_nonneg (Int.mul_nonneg (show 0 ≤ w by omega) hh) d
  have m2 := Int.mul_nonneg (Int.mul_nonneg (show 0 ≤ a by omega) hh) d
  constructor
  · apply Int.le_of_mul_le_mul_right (a := w + a) _ (by omega)
    simp only [Int.mul_sub, Int.sub_mul, Int.mul_add, Int.add_mul, Int.mul_assoc, Int.mul_comm, Int.mul_left_comm] at m1 h1 ⊢
    omega
  · apply Int.le_of_mul_le_mul_right (a := w + a) _ (by omega)
    simp only [Int.mul_sub, Int.sub_mul, Int.mul_add, Int.add_mul, Int.mul_assoc, Int.mul_comm, Int.mul_left_comm] at m2 h1 ⊢
    omega
theorem L9 {u V n S j : Int} (h : u * (V - n) = n * S * j) : u * V = n * (S * j + u) := by
  simp only [Int.mul_sub, Int.mul_add, Int.mul_assoc, Int.mul_comm, Int.mul_left_comm] at h ⊢
  omega
def wl (V S : Int) : Nat → Int → List Int
  | 0, _ => []
  | n + 1, i => if 0 < S + i ∧ Int.tmod V (S + i) = 0 then i :: wl V S n (i + 1) else wl V S n (i + 1)
theorem wl_len (V S : Int) : ∀ (n : Nat) (i : Int), (wl V S n i).length ≤ n
  | 0, _ => by simp [wl]
  | n + 1, i => by
    have := wl_len V S n (i + 1)
    rw [wl]; split
    · simp only [List.length_cons]; omega
    · omega
theorem wl_mem (V S x : Int) : ∀ (n : Nat) (i : Int), x ∈ wl V S n i ↔ i ≤ x ∧ x < i + n ∧ 0 < S + x ∧ Int.tmod V (S + x) = 0
  | 0, i => by simp [wl]; omega
  | n + 1, i => by
    have ih := wl_mem V S x n (i + 1)
    rw [wl]
    by_cases c : 0 < S + i ∧ Int.tmod V (S + i) = 0
    · rw [if_pos c, List.mem_cons, ih]
      constructor
      · rintro (rfl | h)
        · exact ⟨by omega, by omega, c.1, c.2⟩
        · exact ⟨by omega, by omega, h.2.2.1, h.2.2.2⟩
      · rintro ⟨h1, h2, h3, h4⟩
        by_cases e : x = i
        · exact .inl e
        · exact .inr ⟨by omega, by omega, h3, h4⟩
    · rw [if_neg c, ih]
      constructor
      · rintro ⟨h1, h2, h3, h4⟩
        exact ⟨by omega, by omega, h3, h4⟩
      · rintro ⟨h1, h2, h3, h4⟩
        have e : x ≠ i := fun e => c (by subst e; exact ⟨h3, h4⟩)
        exact ⟨by omega, by omega, h3, h4⟩
theorem wl_sorted (V S : Int) : ∀ (n : Nat) (i : Int), (wl V S n i).Pairwise (· < ·)
  | 0, _ => by simp [wl]
  | n + 1, i => by
    have ih := wl_sorted V S n (i + 1)
    rw [wl]; split
    · refine List.Pairwise.cons (fun x hx => ?_) ih
      have := ((wl_mem V S x n (i + 1)).1 hx).1
      omega
    · exact ih
theorem wholeTimes_il (V S : Int) (hV : 1 ≤ V ∧ V ≤ 500) (hS : 0 ≤ S ∧ S ≤ 20) : ∀ (n i k : Nat) (acc : List Int), i + n = 21 → n < k → acc.length ≤ i → impl_WholeTimes.l0 k acc (i : Int) V S = some (acc ++ wl V S n i, true)
  | 0, i, k, acc, hi, hk, ha => by
    obtain ⟨k, rfl⟩ : ∃ m, k = m + 1 := ⟨k - 1, by omega⟩
    simp only [impl_WholeTimes.l0]
    rw [if_neg (by omega)]
    simp [wl]
  | n + 1, i, k, acc, hi, hk, ha => by
    obtain ⟨k, rfl⟩ : ∃ m, k = m + 1 := ⟨k - 1, by omega⟩
    have ew : wrap64 ((i : Int) + 1) = ((i + 1 : Nat) : Int) := by unfold wrap64; omega
    simp only [impl_WholeTimes.l0]
    rw [if_pos (by omega), wr0 (x := S + i) (by omega) (by omega), ew, wl]
    by_cases c1 : 0 < S + i
    · rw [if_pos c1, if_neg (by omega)]
      by_cases c2 : Int.tmod V (S + i) = 0
      · rw [if_pos c2, if_pos (by omega), if_pos ⟨c1, c2⟩, wholeTimes_il V S hV hS n (i + 1) k _ (by omega) (by omega) (by simp; omega)]
        simp
      · rw [if_neg c2, if_neg (fun e => c2 e.2), wholeTimes_il V S hV hS n (i + 1) k _ (by omega) (by omega) (by omega)]
        simp
    · rw [if_neg (by omega), if_neg (fun e => c1 e.1), wholeTimes_il V S hV hS n (i + 1) k _ (by omega) (by omega) (by omega)]
      simp
theorem wholeTimes_sl (V S : Int) (hV : 1 ≤ V ∧ V ≤ 500) (hS : 0 ≤ S ∧ S ≤ 20) : ∀ (n i k : Nat) (acc : List Int), i + n = 21 → n < k → acc.length ≤ i → spec_WholeTimes.l0 k acc (i : Int) V S = some (acc ++ wl V S n i, true)
  | 0, i, k, acc, hi, hk, ha => by
    obtain ⟨k, rfl⟩ : ∃ m, k = m + 1 := ⟨k - 1, by omega⟩
    simp only [spec_WholeTimes.l0]
    rw [if_neg (by omega)]
    simp [wl]
  | n + 1, i, k, acc, hi, hk, ha => by
    obtain ⟨k, rfl⟩ : ∃ m, k = m + 1 := ⟨k - 1, by omega⟩
    have ew : wrap64 ((i : Int) + 1) = ((i + 1 : Nat) : Int) := by unfold wrap64; omega
    simp only [spec_WholeTimes.l0]
    rw [if_pos (by omega), wr0 (x := S + i) (by omega) (by omega), ew, wl]
    by_cases c1 : 0 < S + i
    · rw [if_pos c1, if_neg (by omega)]
      by_cases c2 : Int.tmod V (S + i) = 0
      · rw [if_pos c2, if_pos (by omega), if_pos ⟨c1, c2⟩, wholeTimes_sl V S hV hS n (i + 1) k _ (by omega) (by omega) (by simp; omega)]
        simp
      · rw [if_neg c2, if_neg (fun e => c2 e.2), wholeTimes_sl V S hV hS n (i + 1) k _ (by omega) (by omega) (by omega)]
        simp
    · rw [if_neg (by omega), if_neg (fun e => c1 e.1), wholeTimes_sl V S hV hS n (i + 1) k _ (by omega) (by omega) (by omega)]
      simp
def wt (V S : Int) : List Int × Bool := if moB V S = true then (wl V S 21 0, true) else ([], false)
theorem wholeTimes_i (k : Nat) (hk : 100 ≤ k) (V S : Int) : impl_WholeTimes.f k V S = some (wt V S) := by
  unfold impl_WholeTimes.f wt
  rw [isMoving_eq]
  simp only [Option.bind_some]
  by_cases c : moB V S = true
  · have b := moB_b c
    have := wholeTimes_il V S (by omega) (by omega) 21 0 k [] (by omega) (by omega) (by simp)
    rw [if_pos c, if_pos c]
    simpa using this
  · rw [if_neg c, if_neg c]
theorem wholeTimes_s (k : Nat) (hk : 100 ≤ k) (V S : Int) : spec_WholeTimes.f k V S = some (wt V S) := by
  unfold spec_WholeTimes.f wt
  rw [moGood_eq]
  simp only [Option.bind_some]
  by_cases c : moB V S = true
  · have b := moB_b c
    have := wholeTimes_sl V S (by omega) (by omega) 21 0 k [] (by omega) (by omega) (by simp)
    rw [if_pos c, if_pos c]
    simpa using this
  · rw [if_neg c, if_neg c]
theorem rdn (l : List Int) (i : Nat) (h : i < l.length) : rd l (i : Int) = l[i] := by simp [rd, List.getD, h]
theorem lSame_l (l : List Int) (hl : l.length ≤ 1000) : ∀ (n i k : Nat), i + n = l.length → n < k → laws_lSame.l0 k l l (l.length : Int) (i : Int) = some true
  | 0, i, k, hi, hk => by
    obtain ⟨k, rfl⟩ : ∃ m, k = m + 1 := ⟨k - 1, by omega⟩
    simp only [laws_lSame.l0]
    rw [if_neg (by omega)]
  | n + 1, i, k, hi, hk => by
    obtain ⟨k, rfl⟩ : ∃ m, k = m + 1 := ⟨k - 1, by omega⟩
    have ew : wrap64 ((i : Int) + 1) = ((i + 1 : Nat) : Int) := by unfold wrap64; omega
    simp only [laws_lSame.l0, ew]
    rw [if_pos (by omega), if_pos (by omega), if_pos (by omega), if_pos (by omega), if_pos trivial, lSame_l l hl n (i + 1) k (by omega) (by omega)]
theorem lSame_val (l : List Int) (hl : l.length ≤ 1000) (k : Nat) (hk : 1001 ≤ k) : laws_lSame.f k l l = some true := by
  unfold laws_lSame.f
  rw [if_pos rfl]
  exact lSame_l l hl l.length 0 k (by omega) (by omega)
theorem lHas_l (l : List Int) (hl : l.length ≤ 1000) (x : Int) : ∀ (n i k : Nat), i + n = l.length → n < k → laws_lHas.l0 k x l (l.length : Int) (i : Int) = some (decide (x ∈ l.drop i))
  | 0, i, k, hi, hk => by
    obtain ⟨k, rfl⟩ : ∃ m, k = m + 1 := ⟨k - 1, by omega⟩
    simp only [laws_lHas.l0]
    rw [if_neg (by omega), List.drop_of_length_le (by omega)]
    simp
  | n + 1, i, k, hi, hk => by
    obtain ⟨k, rfl⟩ : ∃ m, k = m + 1 := ⟨k - 1, by omega⟩
    have ew : wrap64 ((i : Int) + 1) = ((i + 1 : Nat) : Int) := by unfold wrap64; omega
    have h : i < l.length := by omega
    simp only [laws_lHas.l0, ew, rdn l i h]
    rw [if_pos (by omega), if_pos (by omega), if_pos (by omega), lHas_l l hl x n (i + 1) k (by omega) (by omega), List.drop_eq_getElem_cons h]
    by_cases e : l[i] = x
    · rw [if_pos e]; simp [e]
    · rw [if_neg e]
      congr 1
      rw [decide_eq_decide, List.mem_cons]
      exact ⟨.inr, fun h => h.elim (fun h => absurd h.symm e) id⟩
theorem lHas_val (l : List Int) (hl : l.length ≤ 1000) (x : Int) (k : Nat) (hk : 1001 ≤ k) : laws_lHas.f k l x = some (decide (x ∈ l)) := by
  have := lHas_l l hl x l.length 0 k (by omega) (by omega)
  simpa [laws_lHas.f] using this
theorem lRises_l (l : List Int) (hl : l.length ≤ 1000) (hs : l.Pairwise (· < ·)) : ∀ (n i k : Nat), i + n = l.length + 1 → n < k → 1 ≤ i → laws_lRises.l0 k l (i : Int) = some true
  | 0, i, k, hi, hk, h1 => by
    obtain ⟨k, rfl⟩ : ∃ m, k = m + 1 := ⟨k - 1, by omega⟩
    simp only [laws_lRises.l0]
    rw [if_neg (by omega)]
  | n + 1, i, k, hi, hk, h1 => by
    obtain ⟨k, rfl⟩ : ∃ m, k = m + 1 := ⟨k - 1, by omega⟩
    simp only [laws_lRises.l0]
    by_cases c : i < l.length
    · have ew : wrap64 ((i : Int) + 1) = ((i + 1 : Nat) : Int) := by unfold wrap64; omega
      have em : wrap64 ((i : Int) - 1) = ((i - 1 : Nat) : Int) := by unfold wrap64; omega
      have hlt := List.pairwise_iff_getElem.1 hs (i - 1) i (by omega) c (by omega)
      rw [ew, em, if_pos (by omega), if_pos (by omega), if_pos (by omega), if_pos (by omega), rdn l (i - 1) (by omega), rdn l i c, if_neg (by omega), lRises_l l hl hs n (i + 1) k (by omega) (by omega) (by omega)]
    · rw [if_neg (by omega)]
theorem lRises_val (l : List Int) (hl : l.length ≤ 1000) (hs : l.Pairwise (· < ·)) (k : Nat) (hk : 1002 ≤ k) : laws_lRises.f k l = some true := by
  unfold laws_lRises.f
  exact lRises_l l hl hs l.length 1 k (by omega) (by omega) (by omega)
theorem den_one (V D : Int) (hV : 0 ≤ V) (hV2 : V ≤ 1000) (hD : 0 < D) (hD2 : D ≤ 1000) : (lowP V D).2 = 1 ↔ Int.tmod V D = 0 := by
  have L := low_lowP V D hV (by omega) hD (by omega)
  constructor
  · intro h
    have := L.2.2.2.1
    rw [h, Int.mul_one] at this
    rw [← this]
    exact Int.mul_tmod_left _ _
  · intro h
    have e : V = D * Int.tdiv V D := by
      have := Int.mul_tdiv_add_tmod V D
      omega
    have hq : 0 ≤ Int.tdiv V D := Int.tdiv_nonneg hV (by omega)
    have e2 : lowP V D = lowP (D * Int.tdiv V D) (D * 1) := by rw [← e, Int.mul_one]
    rw [e2, lowP_scale D _ 1 hD hq (by omega)]
    have L1 := low_lowP (Int.tdiv V D) 1 hq (by
      have := Int.tdiv_le_self D hV
      omega) (by omega) (by omega)
    have b1 := L1.2.1
    have b2 := L1.2.2.2.2.1
    omega
end Mt4
section Mt5
theorem W_ok (c : Bool) (n d : Int) : (W c n d).2.2 = c := by cases c <;> rfl
theorem W_t (n d : Int) : W true n d = ((lowP n d).1, (lowP n d).2, true) := rfl
theorem wmul3 (a b c : Int) : wrap64 ((wrap64 (a * b)) * c) = wrap64 (a * b * c) := wrap_mul_l _ _
theorem wmul3s (x p f s k : Int) : wrap64 ((wrap64 (x * (wrap64 ((wrap64 (p * f)) + s)))) * k) = wrap64 (x * (p * f + s) * k) := by
  rw [wrap_add_l, wrap_mul_r, wrap_mul_l]
theorem j11_true (K : Nat) (hK : 2000 ≤ K) (V S n : Int) (n0 : Bool) (h : n0 = false) :
    laws_FnMovingTimedOfAll.j11 K n (W (pfs V S n) (n * S) (V - n)).1 (W (pfs V S n) (n * S) (V - n)).2.1 (W (pfs V S n) (n * S) (V - n)).2.2 n0 V S = some true := by
  obtain ⟨K, rfl⟩ : ∃ m, K = m + 1 := ⟨K - 1, by omega⟩
  subst h
  simp only [laws_FnMovingTimedOfAll.j11, W_ok, Bool.false_eq_true, if_false]
  by_cases c : pfs V S n = true
  · rw [if_pos c, c, W_t]
    simp only
    have c' := c
    unfold pfs at c'
    rw [Bool.and_eq_true, Bool.and_eq_true] at c'
    have b := moB_b c'.1
    have b2 := of_decide_eq_true c'.2.1
    have m := mulb (a := n) (b := S) (A := 500) (B := 20) (by omega) (by omega) (by omega) (by omega)
    have L := low_lowP (n * S) (V - n) (by omega) (by omega) (by omega) (by omega)
    rw [lLow_val K _ _ L.1 L.2.1 L.2.2.1 (by have := L.2.2.2.2.1; omega)]
    simp only [Option.bind_some, if_true]
    rw [if_pos]
    rw [wrap_add_l, wrap_mul_r, L9 L.2.2.2.1]
  · rw [if_neg c]
theorem j10_true (K : Nat) (hK : 100000 ≤ K) (z w a V S n : Int) (n0 : Bool) (h : n0 = false) :
    laws_FnMovingTimedOfAll.j10 K w a n (W (vfb z w a) (2 * w * a) (w + a)).1 (W (vfb z w a) (2 * w * a) (w + a)).2.1 (W (vfb z w a) (2 * w * a) (w + a)).2.2 (W (pfs V S n) (n * S) (V - n)).1 (W (pfs V S n) (n * S) (V - n)).2.1 (W (pfs V S n) (n * S) (V - n)).2.2 n0 V S = some true := by
  obtain ⟨K, rfl⟩ : ∃ m, K = m + 1 := ⟨K - 1, by omega⟩
  subst h
  simp only [laws_FnMovingTimedOfAll.j10, W_ok (vfb z w a), Bool.false_eq_true, if_false]
  by_cases c : vfb z w a = true
  · rw [if_pos c, c, W_t]
    simp only
    have c' := c
    unfold vfb at c'
    rw [Bool.and_eq_true, Bool.and_eq_true] at c'
    have b1 := of_decide_eq_true c'.2.1
    have b2 := of_decide_eq_true c'.2.2
    have m := mulb (a := 2 * w) (b := a) (A := 20000) (B := 10000) (by omega) (by omega) (by omega) (by omega)
    have L := low_lowP (2 * w * a) (w + a) (by omega) (by omega) (by omega) (by omega)
    have hb := L.2.1
    have hb2 := L.2.2.2.2.1
    have Q := L8 L.2.2.2.1 (by omega) (by omega) (by omega)
    have m1 := mulb (a := w) (b := (lowP (2 * w * a) (w + a)).2) (A := 10000) (B := 20000) (by omega) (by omega) (by omega) (by omega)
    have m2 := mulb (a := a) (b := (lowP (2 * w * a) (w + a)).2) (A := 10000) (B := 20000) (by omega) (by omega) (by omega) (by omega)
    rw [lIs_val K _ _ _ _ L.1 L.2.1 L.2.2.1 (by omega) (by rw [wrap_mul_r, wrap_mul_l, Int.mul_assoc (wrap64 (2 * w)), wrap_mul_l, ← Int.mul_assoc]; exact congrArg wrap64 L.2.2.2.1)]
    simp only [Option.bind_some, if_true]
    rw [wr0 (x := w * _) (by omega) (by omega), wr0 (x := a * _) (by omega) (by omega), if_neg (by omega)]
    exact j11_true K (by omega) V S n _ (decide_eq_false (by omega))
  · rw [if_neg c]
    exact j11_true K (by omega) V S n _ rfl
theorem j9_true (K : Nat) (hK : 1000000 ≤ K) (p x q y z w a V S n : Int) (n0 : Bool) (h : n0 = false) :
    laws_FnMovingTimedOfAll.j9 K p x q y w a n (W (twoB p x q y) (x * y * (q - p)) (x * q - y * p)).1 (W (twoB p x q y) (x * y * (q - p)) (x * q - y * p)).2.1 (W (twoB p x q y) (x * y * (q - p)) (x * q - y * p)).2.2 (W (twoB p x q y) ((y - x) * p * q) (x * q - y * p)).1 (W (twoB p x q y) ((y - x) * p * q) (x * q - y * p)).2.1
      (W (vfb z w a) (2 * w * a) (w + a)).1 (W (vfb z w a) (2 * w * a) (w + a)).2.1 (W (vfb z w a) (2 * w * a) (w + a)).2.2 (W (pfs V S n) (n * S) (V - n)).1 (W (pfs V S n) (n * S) (V - n)).2.1 (W (pfs V S n) (n * S) (V - n)).2.2 n0 V S = some true := by
  obtain ⟨K, rfl⟩ : ∃ m, K = m + 1 := ⟨K - 1, by omega⟩
  subst h
  simp only [laws_FnMovingTimedOfAll.j9, W_ok (twoB p x q y), Bool.false_eq_true, if_false]
  by_cases c : twoB p x q y = true
  · rw [if_pos c, c, W_t, W_t]
    simp only
    have c' := (twoB_iff p x q y).1 c
    have b := two_b c'.1
    have s := two_sz c'.1
    have L := low_lowP (x * y * (q - p)) (x * q - y * p) (by omega) (by omega) c'.2 (by omega)
    have L' := low_lowP ((y - x) * p * q) (x * q - y * p) (by omega) (by omega) c'.2 (by omega)
    have u1 := L.2.2.2.2.1
    have u2 := L'.2.2.2.2.1
    rw [lLow_val K _ _ L.1 L.2.1 L.2.2.1 (by omega), lLow_val K _ _ L'.1 L'.2.1 L'.2.2.1 (by omega)]
    simp only [Option.bind_some, if_true]
    rw [wmul3, wmul3s, wmul3, wmul3s, L7a (by omega) L.2.2.2.1 L'.2.2.2.1, L7b (by omega) L.2.2.2.1 L'.2.2.2.1, if_pos rfl]
    exact j10_true K (by omega) z w a V S n _ (by simp)
  · rw [if_neg c]
    exact j10_true K (by omega) z w a V S n _ rfl
theorem j8_true (K : Nat) (hK : 6000000 ≤ K) (p x q y z w a V S n : Int) : laws_FnMovingTimedOfAll.j8 K p x q y z w a n V S = some true := by
  obtain ⟨K, rfl⟩ : ∃ m, K = m + 1 := ⟨K - 1, by omega⟩
  simp only [laws_FnMovingTimedOfAll.j8, visibleFromTwo_i K (by omega), visibleFromTwo_s K (by omega), speedFromTwo_i K (by omega), speedFromTwo_s K (by omega), visibleFromBoth_i K (by omega), visibleFromBoth_s K (by omega), paceForSteps_i K (by omega), paceForSteps_s K (by omega), Option.bind_some]
  have e1 : ((W (twoB p x q y) ((y - x) * p * q) (x * q - y * p)).2.2 != (W (twoB p x q y) (x * y * (q - p)) (x * q - y * p)).2.2) = false := by rw [W_ok, W_ok]; simp
  simp only [e1, bne_self_eq_false, Bool.false_eq_true, if_false, if_true]
  exact j9_true K (by omega) p x q y z w a V S n _ rfl
end Mt5
section Itn
open Go.Lib
theorem itoa_dig {n : Int} (h : 0 ≤ n) : ∀ c ∈ itoa n, 48 ≤ c.toNat ∧ c.toNat ≤ 57 := by
  obtain ⟨m, rfl⟩ : ∃ m : Nat, n = m := ⟨n.toNat, by omega⟩
  rw [itoa_dec]; exact dd_digit m
theorem numOf_itoa {n : Int} (h : 0 ≤ n) (h2 : n ≤ 999999) : numOf (itoa n) = n := by
  obtain ⟨m, rfl⟩ : ∃ m : Nat, n = m := ⟨n.toNat, by omega⟩
  rw [itoa_dec, numOf_dec m (by omega)]
end Itn
section Mt6
open Go.Lib
theorem parse_text {V S : Int} (h : moB V S = true) : impl_ParseMoving.f (moTxt V S) = some (V, S, true) := by
  have b := moB_b h
  have s1 := nm_le' V (by omega) (by omega)
  have s2 := nm_le' S (by omega) (by omega)
  have o : (⟨#[118]⟩ : ByteArray).size = 1 := rfl
  have hsz : (moTxt V S).size ≤ 1048576 := by
    unfold moTxt
    simp only [ByteArray.size_append]
    omega
  have hd : (moTxt V S).data.toList = itoa V ++ 118 :: itoa S := by
    unfold moTxt nm
    simp
  have hc : cut (moTxt V S).data.toList [118] = (itoa V, itoa S, true) := by
    rw [hd]
    refine cut_hit 118 _ _ (fun hm => ?_)
    have := itoa_dig (by omega) 118 hm
    have z : (118 : UInt8).toNat = 118 := rfl
    omega
  rw [nm_size] at s1 s2
  unfold impl_ParseMoving.f
  rw [Cut_eq _ _ hsz, hc]
  simp only [Option.bind_some]
  rw [num_eq _ (by rw [size_mk]; omega), num_eq _ (by rw [size_mk]; omega)]
  simp only [Option.bind_some, data_mk, isMoving_eq]
  rw [numOf_itoa (by omega) (by omega), numOf_itoa (by omega) (by omega), if_pos h]
def mt (V S : Int) : ByteArray × Bool := if moB V S = true then (moTxt V S, true) else ((⟨#[]⟩ : ByteArray), false)
theorem j7_true (K : Nat) (hK : 7000000 ≤ K) (p x q y z w a n V S V9 S9 : Int) : laws_FnMovingTimedOfAll.j7 K p x q y z w a n (wt V S).1 (wt V S).2 (mt V S).1 V S V9 S9 = some true := by
  obtain ⟨K, rfl⟩ : ∃ m, K = m + 1 := ⟨K - 1, by omega⟩
  have e8 := j8_true K (by omega) p x q y z w a V9 S9 n
  simp only [laws_FnMovingTimedOfAll.j7]
  by_cases c : moB V S = true
  · have e1 : wt V S = (wl V S 21 0, true) := by unfold wt; rw [if_pos c]
    have e2 : mt V S = (moTxt V S, true) := by unfold mt; rw [if_pos c]
    have hl := wl_len V S 21 0
    rw [e1, e2]
    simp only [if_true]
    rw [parse_text c, lRises_val _ (by omega) (wl_sorted V S 21 0) K (by omega)]
    simp only [Option.bind_some, if_true, beq_self_eq_true, Bool.not_true, Bool.or_self, Bool.false_eq_true, if_false]
    exact e8
  · have e1 : wt V S = ([], false) := by unfold wt; rw [if_neg c]
    rw [e1]
    simp only [Bool.false_eq_true, if_false]
    exact e8
theorem j6_true (K : Nat) (hK : 7000001 ≤ K) (t c h p x q y z w a n V S V9 S9 : Int) (fl : Bool)
    (hf : fl = true → 1 ≤ t ∧ t ≤ 20 ∧ 1 ≤ c ∧ c ≤ 10000 ∧ c ≤ h ∧ h ≤ 10000 ∧ V * (c + h) = 2 * c * h) :
    laws_FnMovingTimedOfAll.j6 K t p x q y z w a n c h (wt V S).1 (wt V S).2 (mt V S).1 fl V S V9 S9 = some true := by
  obtain ⟨K, rfl⟩ : ∃ m, K = m + 1 := ⟨K - 1, by omega⟩
  have e7 := j7_true K (by omega) p x q y z w a n V S V9 S9
  simp only [laws_FnMovingTimedOfAll.j6]
  cases fl with
  | false => rw [if_neg (by simp)]; exact e7
  | true =>
    obtain ⟨h1, h2, h3, h4, h5, h6, h7⟩ := hf rfl
    have v : vfb t c h = true := by
      unfold vfb; rw [decide_eq_true ⟨h1, h2⟩, decide_eq_true ⟨h3, h4⟩, decide_eq_true ⟨h5, h6⟩]; rfl
    have m := mulb (a := 2 * c) (b := h) (A := 20000) (B := 10000) (by omega) (by omega) (by omega) (by omega)
    have L := low_lowP (2 * c * h) (c + h) (by omega) (by omega) (by omega) (by omega)
    have u := L.2.2.2.2.1
    rw [if_pos rfl, visibleFromBoth_i K (by omega), v, W_t]
    simp only [Option.bind_some, if_true]
    rw [lIs_val K _ _ _ _ L.1 L.2.1 L.2.2.1 (by omega) (by rw [L6 h7 L.2.2.2.1 (by omega)])]
    simp only [Option.bind_some, if_true]
    exact e7
theorem j4_true (K : Nat) (hK : 7000005 ≤ K) (t p x q y z w a n V S V9 S9 : Int) :
    laws_FnMovingTimedOfAll.j4 K t p x q y z w a n (W (asked V S t && decide (0 < S + t)) V (S + t)).1 (W (asked V S t && decide (0 < S + t)) V (S + t)).2.1 (W (asked V S t && decide (0 < S + t)) (t * V) (S + t)).1 (W (asked V S t && decide (0 < S + t)) (t * V) (S + t)).2.1
      (W (asked V S t && decide (0 < t - S)) V (t - S)).1 (W (asked V S t && decide (0 < t - S)) V (t - S)).2.1 (W (asked V S t && decide (0 < t - S)) V (t - S)).2.2 (W (asked V S t && decide (0 < t - S)) (t * V) (t - S)).1 (W (asked V S t && decide (0 < t - S)) (t * V) (t - S)).2.1
      (wt V S).1 (wt V S).2 (mt V S).1 V S V9 S9 = some true := by
  obtain ⟨K, rfl⟩ : ∃ m, K = m + 1 := ⟨K - 1, by omega⟩
  simp only [laws_FnMovingTimedOfAll.j4, W_ok]
  by_cases c : (asked V S t && decide (0 < t - S)) = true
  · have c' := c
    rw [Bool.and_eq_true] at c'
    have b := asked_b c'.1
    have hE := of_decide_eq_true c'.2
    have c1 : (asked V S t && decide (0 < S + t)) = true := by rw [c'.1, decide_eq_true (by omega)]; rfl
    have m := mulb (a := t) (b := V) (A := 20) (B := 500) (by omega) (by omega) (by omega) (by omega)
    have A := low_lowP V (S + t) (by omega) (by omega) (by omega) (by omega)
    have C := low_lowP (t * V) (S + t) (by omega) (by omega) (by omega) (by omega)
    have F := low_lowP V (t - S) (by omega) (by omega) (by omega) (by omega)
    have H := low_lowP (t * V) (t - S) (by omega) (by omega) (by omega) (by omega)
    rw [if_pos c, c, c1, W_t, W_t, W_t, W_t]
    simp only
    generalize lowP V (S + t) = A0 at *
    generalize lowP (t * V) (S + t) = C0 at *
    generalize lowP V (t - S) = F0 at *
    generalize lowP (t * V) (t - S) = H0 at *
    obtain ⟨a1, a2⟩ := A0
    obtain ⟨c1', c2⟩ := C0
    obtain ⟨f1, f2⟩ := F0
    obtain ⟨h1, h2⟩ := H0
    obtain ⟨A1, A2, A3, A4, A5, A6⟩ := A
    obtain ⟨C1, C2, C3, C4, C5, C6⟩ := C
    obtain ⟨F1, F2, F3, F4, F5, F6⟩ := F
    obtain ⟨H1, H2, H3, H4, H5, H6⟩ := H
    simp only at A1 A2 A3 A4 A5 A6 C1 C2 C3 C4 C5 C6 F1 F2 F3 F4 F5 F6 H1 H2 H3 H4 H5 H6 ⊢
    rw [lIs_val K f1 f2 V _ F1 F2 F3 (by omega) (by rw [wrap_mul_r, F4])]
    simp only [Option.bind_some, if_true]
    rw [lIs_val K h1 h2 _ f2 H1 H2 H3 (by omega) (by rw [wrap_mul_l, L1 F4 H4 (by omega)])]
    simp only [Option.bind_some, if_true]
    have hle := L5 A4 F4 hE (by omega) (by omega) (by omega) (by omega)
    have m1 := mulb (a := f1) (b := a2) (A := 500) (B := 40) (by omega) (by omega) (by omega) (by omega)
    have m2 := mulb (a := a1) (b := f2) (A := 500) (B := 40) (by omega) (by omega) (by omega) (by omega)
    rw [wr0 (x := f1 * a2) (by omega) (by omega), wr0 (x := a1 * f2) (by omega) (by omega), decide_eq_false (show ¬ f1 * a2 < a1 * f2 by omega)]
    obtain ⟨K, rfl⟩ : ∃ m, K = m + 1 := ⟨K - 1, by omega⟩
    simp only [laws_FnMovingTimedOfAll.j5, Bool.false_eq_true, if_false]
    by_cases g1 : c2 = 1
    · rw [if_pos g1]
      by_cases g2 : h2 = 1
      · rw [if_pos g2]
        by_cases g3 : c1' ≥ 1
        · rw [if_pos g3]
          refine j6_true K (by omega) t c1' h1 p x q y z w a n V S V9 S9 _ (fun hh => ?_)
          have hh' := of_decide_eq_true hh
          subst g1 g2
          rw [Int.mul_one] at C4 H4
          have hch : c1' ≤ h1 := by
            have := L5 (a := c1') (b := 1) (D := S + t) (V := t * V) (f := h1) (g := 1) (E := t - S) (by rw [Int.mul_one]; exact C4) (by rw [Int.mul_one]; exact H4) hE (by omega) (by omega) (by omega) (by omega)
            omega
          exact ⟨by omega, by omega, g3, by omega, hch, hh', L6a C4 H4 (by omega) (by omega)⟩
        · rw [if_neg g3]; exact j6_true K (by omega) t c1' h1 p x q y z w a n V S V9 S9 _ (fun e => by cases e)
      · rw [if_neg g2]; exact j6_true K (by omega) t c1' h1 p x q y z w a n V S V9 S9 _ (fun e => by cases e)
    · rw [if_neg g1]; exact j6_true K (by omega) t c1' h1 p x q y z w a n V S V9 S9 _ (fun e => by cases e)
  · rw [if_neg c]
    exact j7_true K (by omega) p x q y z w a n V S V9 S9
end Mt6
section Mt7
theorem wt_ok (V S : Int) : (wt V S).2 = moB V S := by
  unfold wt
  by_cases c : moB V S = true
  · rw [if_pos c, c]
  · rw [if_neg c, Bool.eq_false_iff.2 c]
theorem mt_ok (V S : Int) : (mt V S).2 = moB V S := by
  unfold mt
  by_cases c : moB V S = true
  · rw [if_pos c, c]
  · rw [if_neg c, Bool.eq_false_iff.2 c]
theorem ceil_ge {a b : Int} (ha : 0 ≤ a) (hb : 1 ≤ b) : a ≤ Int.tdiv (a + b - 1) b * b ∧ 0 ≤ Int.tdiv (a + b - 1) b := by
  rw [Int.tdiv_eq_ediv_of_nonneg (by omega)]
  have h1 := Int.mul_ediv_add_emod (a + b - 1) b
  have h2 := Int.emod_lt_of_pos (a + b - 1) (show 0 < b by omega)
  have h3 := Int.ediv_nonneg (show 0 ≤ a + b - 1 by omega) (show 0 ≤ b by omega)
  rw [Int.mul_comm] at h1
  exact ⟨by omega, h3⟩
theorem place_then {V S t a b : Int} (hq : asked V S t = true) (hD : 0 < S + t) (A : Low V (S + t) a b) (X : Option Bool) :
    (if b = 0 then (none : Option Bool) else ((impl_PlaceAt.f V S t (wrap64 (Int.tdiv (wrap64 ((wrap64 (a + b)) - 1)) b))).bind fun bt => (if (wrap64 (Int.tdiv (wrap64 ((wrap64 (a + b)) - 1)) b)) ≤ 1000 then (if bt.2 = true then (if bt.1 = V then X else (some false)) else (some false)) else X))) = X := by
  obtain ⟨A1, A2, A3, A4, A5, A6⟩ := A
  have q := asked_b hq
  obtain ⟨g1, g2⟩ := ceil_ge A1 A2
  have g3 : Int.tdiv (a + b - 1) b ≤ a + b - 1 := Int.tdiv_le_self b (by omega)
  have hle := L4 A4 (by omega) (by omega) g1
  rw [if_neg (by omega), wr0 (x := a + b) (by omega) (by omega), wr0 (x := a + b - 1) (by omega) (by omega), wr0 (x := Int.tdiv (a + b - 1) b) (by omega) (by omega), placeAt_i]
  simp only [Option.bind_some]
  by_cases c : Int.tdiv (a + b - 1) b ≤ 1000
  · have hc : asked V S t = true ∧ 0 ≤ Int.tdiv (a + b - 1) b ∧ Int.tdiv (a + b - 1) b ≤ 1000 := ⟨hq, g2, c⟩
    rw [if_pos c, if_pos hc]
    simp only [if_true]
    rw [if_pos]
    unfold mn
    split <;> omega
  · rw [if_neg c]
theorem j0_true (K : Nat) (hK : 7000010 ≤ K) (t p x q y z w a n V S V9 S9 : Int) (fl : Bool) (hfl : fl = false) :
    laws_FnMovingTimedOfAll.j0 K t p x q y z w a n (W (asked V S t && decide (0 < S + t)) V (S + t)).1 (W (asked V S t && decide (0 < S + t)) V (S + t)).2.1 (W (asked V S t && decide (0 < S + t)) V (S + t)).2.2 (W (asked V S t && decide (0 < S + t)) (t * V) (S + t)).1 (W (asked V S t && decide (0 < S + t)) (t * V) (S + t)).2.1
      (W (asked V S t && decide (0 < t - S)) V (t - S)).1 (W (asked V S t && decide (0 < t - S)) V (t - S)).2.1 (W (asked V S t && decide (0 < t - S)) V (t - S)).2.2 (W (asked V S t && decide (0 < t - S)) (t * V) (t - S)).1 (W (asked V S t && decide (0 < t - S)) (t * V) (t - S)).2.1
      (W (asked V S t && decide (0 < S + t)) (2 * V) (S + t)).1 (W (asked V S t && decide (0 < S + t)) (2 * V) (S + t)).2.1 (wt V S).1 (wt V S).2 (mt V S).1 fl V S V9 S9 = some true := by
  obtain ⟨K, rfl⟩ : ∃ m, K = m + 1 := ⟨K - 1, by omega⟩
  subst hfl
  have e4 : ∀ k, 7000005 ≤ k → _ := fun k hk => j4_true k hk t p x q y z w a n V S V9 S9
  simp only [laws_FnMovingTimedOfAll.j0, Bool.false_eq_true, if_false]
  rw [W_ok (asked V S t && decide (0 < S + t)) V]
  by_cases c : (asked V S t && decide (0 < S + t)) = true
  · have c' := c
    rw [Bool.and_eq_true] at c'
    have b := asked_b c'.1
    have hD := of_decide_eq_true c'.2
    have mo : moB V S = true := by
      have := c'.1
      unfold asked at this
      rw [Bool.and_eq_true] at this
      exact this.1
    have m := mulb (a := t) (b := V) (A := 20) (B := 500) (by omega) (by omega) (by omega) (by omega)
    have A := low_lowP V (S + t) (by omega) (by omega) (by omega) (by omega)
    have C := low_lowP (t * V) (S + t) (by omega) (by omega) (by omega) (by omega)
    have R := low_lowP (2 * V) (S + t) (by omega) (by omega) (by omega) (by omega)
    have D1 := den_one V (S + t) (by omega) (by omega) hD (by omega)
    rw [if_pos c]
    rw [c] at e4 ⊢
    rw [W_t, W_t] at e4
    rw [W_t, W_t, W_t]
    simp only at e4 ⊢
    generalize lowP V (S + t) = A0 at *
    generalize lowP (t * V) (S + t) = C0 at *
    generalize lowP (2 * V) (S + t) = R0 at *
    obtain ⟨a1, a2⟩ := A0
    obtain ⟨c1, c2⟩ := C0
    obtain ⟨r1, r2⟩ := R0
    simp only at e4 D1 ⊢
    have A' := A
    obtain ⟨A1, A2, A3, A4, A5, A6⟩ := A
    obtain ⟨C1, C2, C3, C4, C5, C6⟩ := C
    obtain ⟨R1, R2, R3, R4, R5, R6⟩ := R
    simp only at A1 A2 A3 A4 A5 A6 C1 C2 C3 C4 C5 C6 R1 R2 R3 R4 R5 R6
    rw [lIs_val K a1 a2 V _ A1 A2 A3 (by omega) (by rw [wrap_mul_r, A4])]
    simp only [Option.bind_some, if_true]
    rw [lIs_val K c1 c2 _ a2 C1 C2 C3 (by omega) (by rw [wrap_mul_l, L1 A4 C4 (by omega)])]
    simp only [Option.bind_some, if_true]
    rw [lIs_val K r1 r2 _ a2 R1 R2 R3 (by omega) (by rw [wrap_mul_l, L1 A4 R4 (by omega)])]
    simp only [Option.bind_some, if_true]
    have ew : wt V S = (wl V S 21 0, true) := by unfold wt; rw [if_pos mo]
    have hl := wl_len V S 21 0
    have hh : laws_lHas.f K (wt V S).1 t = some (decide (a2 = 1)) := by
      rw [ew]
      show laws_lHas.f K (wl V S 21 0) t = _
      rw [lHas_val _ (by omega) t K (by omega)]
      congr 1
      rw [decide_eq_decide, wl_mem, D1]
      constructor
      · exact fun h => h.2.2.2
      · exact fun h => ⟨by omega, by omega, hD, h⟩
    rw [hh]
    simp only [Option.bind_some]
    have eb : (decide (a2 = 1) != (a2 == 1)) = false := by
      by_cases g : a2 = 1 <;> simp [g]
    rw [eb]
    obtain ⟨K, rfl⟩ : ∃ m, K = m + 1 := ⟨K - 1, by omega⟩
    simp only [laws_FnMovingTimedOfAll.j1, Bool.false_eq_true, if_false]
    obtain ⟨K, rfl⟩ : ∃ m, K = m + 1 := ⟨K - 1, by omega⟩
    have e2 : ∀ f : Bool, (f = true → c2 = 1 ∧ c1 < V ∧ S > 0) → laws_FnMovingTimedOfAll.j2 (K + 1) t p x q y z w a n a1 a2 c1 c2 (W (asked V S t && decide (0 < t - S)) V (t - S)).1 (W (asked V S t && decide (0 < t - S)) V (t - S)).2.1 (W (asked V S t && decide (0 < t - S)) V (t - S)).2.2 (W (asked V S t && decide (0 < t - S)) (t * V) (t - S)).1 (W (asked V S t && decide (0 < t - S)) (t * V) (t - S)).2.1 (wt V S).1 (wt V S).2 (mt V S).1 f V S V9 S9 = some true := by
      intro f hf
      simp only [laws_FnMovingTimedOfAll.j2]
      cases f with
      | false =>
        rw [if_neg (by simp), place_then c'.1 hD A']
        exact e4 K (by omega)
      | true =>
        obtain ⟨f1, f2, f3⟩ := hf rfl
        subst f1
        rw [Int.mul_one] at C4
        have v : pfs V S c1 = true := by
          unfold pfs; rw [mo, decide_eq_true (show 0 ≤ c1 ∧ c1 ≤ V - 1 by omega), decide_eq_false (show ¬ S = 0 by omega)]; rfl
        have m2 := mulb (a := c1) (b := S) (A := 500) (B := 20) (by omega) (by omega) (by omega) (by omega)
        have U := low_lowP (c1 * S) (V - c1) (by omega) (by omega) (by omega) (by omega)
        have u5 := U.2.2.2.2.1
        rw [if_pos rfl, paceForSteps_i K (by omega), v, W_t]
        simp only [Option.bind_some, if_true]
        rw [lIs_val K _ _ t 1 U.1 U.2.1 U.2.2.1 (by omega) (by rw [Int.mul_one, L3 C4 rfl U.2.2.2.1 (by omega)])]
        simp only [Option.bind_some, Bool.not_true]
        obtain ⟨K, rfl⟩ : ∃ m, K = m + 1 := ⟨K - 1, by omega⟩
        simp only [laws_FnMovingTimedOfAll.j3, Bool.false_eq_true, if_false]
        rw [place_then c'.1 hD A']
        exact e4 K (by omega)
    by_cases g1 : c2 = 1
    · rw [if_pos g1]
      by_cases g2 : c1 < V
      · rw [if_pos g2]
        exact e2 _ (fun h => ⟨g1, g2, of_decide_eq_true h⟩)
      · rw [if_neg g2]
        exact e2 _ (fun h => by cases h)
    · rw [if_neg g1]
      exact e2 _ (fun h => by cases h)
  · rw [if_neg c]
    exact e4 K (by omega)
end Mt7
theorem movingTimed_true (k : Nat) (hk : 8000000 ≤ k) (V S t p x q y z w a V9 S9 n : Int) : laws_FnMovingTimedOfAll.f k V S t p x q y z w a V9 S9 n = some true := by
  have e0 := fun (f : Bool) (hf : f = false) => j0_true k (by omega) t p x q y z w a n V S V9 S9 f hf
  have hw := wl_len V S 21 0
  have hl : (wt V S).1.length ≤ 1000 := by
    unfold wt
    by_cases c : moB V S = true
    · rw [if_pos c]; simp only; omega
    · rw [if_neg c]; simp
  have em : impl_MovingText.f V S = some (mt V S) := moText_impl V S
  have es : spec_MovingText.f k V S = some (mt V S) := moText_spec V S k (by omega)
  have ei : spec_IsMoving.f V S = some (moB V S) := by unfold spec_IsMoving.f; rw [moGood_eq]; rfl
  simp only [laws_FnMovingTimedOfAll.f, timeWith_i k (by omega), timeWith_s k (by omega), stepsWith_i k (by omega), stepsWith_s k (by omega), timeAgainst_i k (by omega), timeAgainst_s k (by omega), stepsAgainst_i k (by omega), stepsAgainst_s k (by omega), roundTrip_i k (by omega), roundTrip_s k (by omega), wholeTimes_i k (by omega), wholeTimes_s k (by omega), em, es, ei, isMoving_eq, lSame_val _ hl k (by omega), Option.bind_some, bne_self_eq_false, Bool.false_eq_true, if_false, if_true]
  have o1 : ∀ (c : Bool) (u v u' v' : Int), ((W c u v).2.2 != (W c u' v').2.2) = false := fun c u v u' v' => by rw [W_ok, W_ok]; simp
  have o2 : ((wt V S).2 != moB V S) = false := by rw [wt_ok]; simp
  have o3 : ((mt V S).2 != (wt V S).2) = false := by rw [wt_ok, mt_ok]; simp
  simp only [o1, o2, o3, Bool.false_eq_true, if_false]
  by_cases c3 : (asked V S t && decide (0 < t - S)) = true
  · have c' := c3
    rw [Bool.and_eq_true] at c'
    have b := asked_b c'.1
    have hE := of_decide_eq_true c'.2
    have c1 : (asked V S t && decide (0 < S + t)) = true := by rw [c'.1, decide_eq_true (by omega)]; rfl
    have mo : moB V S = true := by
      have := c'.1
      unfold asked at this
      rw [Bool.and_eq_true] at this
      exact this.1
    have k3 : (W (asked V S t && decide (0 < t - S)) V (t - S)).2.2 = true := by rw [W_ok, c3]
    have k1 : (W (asked V S t && decide (0 < S + t)) V (S + t)).2.2 = true := by rw [W_ok, c1]
    rw [if_pos k3, if_pos k1]
    exact e0 _ (by rw [wt_ok, mo]; rfl)
  · have k3 : ¬ (W (asked V S t && decide (0 < t - S)) V (t - S)).2.2 = true := by rw [W_ok]; exact c3
    rw [if_neg k3]
    by_cases c1 : (asked V S t && decide (0 < S + t)) = true
    · have mo : moB V S = true := by
        have := c1
        unfold asked at this
        rw [Bool.and_eq_true, Bool.and_eq_true] at this
        exact this.1.1
      have k1 : (W (asked V S t && decide (0 < S + t)) V (S + t)).2.2 = true := by rw [W_ok, c1]
      rw [if_pos k1]
      exact e0 _ (by rw [wt_ok, mo]; rfl)
    · have k1 : ¬ (W (asked V S t && decide (0 < S + t)) V (S + t)).2.2 = true := by rw [W_ok]; exact c1
      rw [if_neg k1]
      exact e0 _ rfl
theorem FnMovingTimedOfAll (a0_0 : Int) (a0_1 : Int) (a1 : Int) (a2 : Int) (a3 : Int) (a4 : Int) (a5 : Int) (a6 : Int) (a7 : Int) (a8 : Int) (a9_0 : Int) (a9_1 : Int) (a10 : Int) (w0_0 : (Lit.int .i64 a0_0).wf = true) (w0_1 : (Lit.int .i64 a0_1).wf = true) (w1 : (Lit.int .i64 a1).wf = true) (w2 : (Lit.int .i64 a2).wf = true) (w3 : (Lit.int .i64 a3).wf = true) (w4 : (Lit.int .i64 a4).wf = true) (w5 : (Lit.int .i64 a5).wf = true) (w6 : (Lit.int .i64 a6).wf = true) (w7 : (Lit.int .i64 a7).wf = true) (w8 : (Lit.int .i64 a8).wf = true) (w9_0 : (Lit.int .i64 a9_0).wf = true) (w9_1 : (Lit.int .i64 a9_1).wf = true) (w10 : (Lit.int .i64 a10).wf = true) : ∃ k, laws_FnMovingTimedOfAll.f k a0_0 a0_1 a1 a2 a3 a4 a5 a6 a7 a8 a9_0 a9_1 a10 = some true := by
  exact ⟨8000000, movingTimed_true 8000000 (Nat.le_refl _) _ _ _ _ _ _ _ _ _ _ _ _ _⟩
end Go.Proofs.YtbmdgmmegchmnaaDoor.Pure
