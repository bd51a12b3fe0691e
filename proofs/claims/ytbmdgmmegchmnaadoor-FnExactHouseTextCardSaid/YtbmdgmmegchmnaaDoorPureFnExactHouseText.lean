/- The plain law of FnExactHouseText: what the reference's function tells, the program's function tells, for every input. No further condition. -/
import Derived.Test.YtbmdgmmegchmnaaDoorVx33
import Derived.Lib.ItoaNum
import Derived.Lib.ItoaLen
import Derived.Lib.AtoiAllCases
import Derived.Lib.Atoi
import Derived.Lib.Split
import Derived.Lib.SplitLaws
namespace Go.Proofs.YtbmdgmmegchmnaaDoor.Pure
open Go.RowKit Go.Proofs.YtbmdgmmegchmnaaDoor.V Go.Proofs.YtbmdgmmegchmnaaDoorW.PrintWords Go.Proofs.YtbmdgmmegchmnaaDoorW.PrintLast
set_option linter.unusedVariables false
set_option linter.unusedSimpArgs false

theorem wr {x : Int} (h0 : -9223372036854775808 ≤ x) (h1 : x ≤ 9223372036854775807) : wrap64 x = x := by
  unfold wrap64
  omega
theorem in_eq (a b c : Int) : spec_l1In.f a b c = some (decide (b ≤ a ∧ a ≤ c)) := by
  unfold spec_l1In.f
  by_cases h : a ≥ b
  · rw [if_pos h]
    simp [show b ≤ a from h]
  · rw [if_neg h]
    simp [show ¬ b ≤ a from h]
theorem within_eq (a b c : Int) : impl_within.f a b c = some (decide (b ≤ a ∧ a ≤ c)) := by
  unfold impl_within.f
  by_cases h : b ≤ a
  · rw [if_pos h]
    simp [h]
  · rw [if_neg h]
    simp [h]
theorem rd_nat (l : List Int) (i : Nat) (h : i < l.length) : rd l (i : Int) = l[i] := by simp [rd, List.getD, h]
/-- A house: what both functions ask. -/
def hsB (s d : List Int) : Bool := decide (2 ≤ (d.length : Int) ∧ (d.length : Int) ≤ 12) && (decide ((s.length : Int) + 1 = d.length) && ((s.all fun x => decide (1 ≤ x ∧ x ≤ 40)) && (d.all fun x => decide (0 ≤ x ∧ x ≤ 20))))
theorem hsB_facts {s d : List Int} (h : hsB s d = true) : 2 ≤ d.length ∧ d.length ≤ 12 ∧ s.length + 1 = d.length ∧ (∀ x ∈ s, 1 ≤ x ∧ x ≤ 40) ∧ (∀ x ∈ d, 0 ≤ x ∧ x ≤ 20) := by
  simp only [hsB, Bool.and_eq_true, List.all_eq_true, decide_eq_true_eq] at h
  exact ⟨by omega, by omega, by omega, h.2.2.1, h.2.2.2⟩
theorem all_l (lo hi : Int) (l : List Int) (hl : l.length ≤ 1000) (n : Nat) : ∀ (k i : Nat), i + n = l.length → n < k → spec_l1All.l0 k lo hi l (l.length : Int) (i : Int) = some ((l.drop i).all fun x => decide (lo ≤ x ∧ x ≤ hi)) := by
  induction n with
  | zero =>
    intro k i hd hk
    obtain ⟨k, rfl⟩ : ∃ m, k = m + 1 := ⟨k - 1, by omega⟩
    simp only [spec_l1All.l0]
    rw [if_neg (by omega), List.drop_of_length_le (by omega)]
    rfl
  | succ n ih =>
    intro k i hd hk
    obtain ⟨k, rfl⟩ : ∃ m, k = m + 1 := ⟨k - 1, by omega⟩
    have hix : i < l.length := by omega
    have ew : wrap64 ((i : Int) + 1) = ((i + 1 : Nat) : Int) := by rw [wr (by omega) (by omega)]; omega
    simp only [spec_l1All.l0, in_eq, Option.bind_some, ew, rd_nat l i hix]
    rw [if_pos (by omega), if_pos (by omega), if_pos (by omega), List.drop_eq_getElem_cons hix, List.all_cons]
    by_cases c : lo ≤ l[i] ∧ l[i] ≤ hi
    · rw [if_pos (decide_eq_true c), ih k (i + 1) (by omega) (by omega), decide_eq_true c, Bool.true_and]
    · rw [if_neg (by simpa using c), decide_eq_false c, Bool.false_and]
theorem all_val (lo hi : Int) (l : List Int) (hl : l.length ≤ 1000) (k : Nat) (hk : l.length < k) : spec_l1All.f k l lo hi = some (l.all fun x => decide (lo ≤ x ∧ x ≤ hi)) := by
  have := all_l lo hi l hl l.length k 0 (by omega) hk
  simpa [spec_l1All.f] using this
theorem any_not (p : Int → Bool) (l : List Int) : (l.any fun x => !p x) = !(l.all p) := by
  induction l with
  | nil => rfl
  | cons x t ih => simp only [List.any_cons, List.all_cons, ih, Bool.not_and]
theorem ldGood_eq (s d : List Int) (hm : d.length ≤ 4000000000) (k : Nat) (hk : 20 ≤ k) : spec_ldGood.f k s d = some (hsB s d) := by
  simp only [spec_ldGood.f, in_eq, Option.bind_some, hsB]
  rw [wr (x := (d.length : Int) - 1) (by omega) (by omega)]
  by_cases c1 : 2 ≤ (d.length : Int) ∧ (d.length : Int) ≤ 12
  · by_cases c2 : (s.length : Int) + 1 = d.length
    · rw [all_val 1 40 s (by omega) k (by omega), all_val 0 20 d (by omega) k (by omega), if_pos (decide_eq_true c1), if_pos (by omega), decide_eq_true c1, decide_eq_true c2]
      simp only [Option.bind_some, Bool.true_and]
      cases s.all fun x => decide (1 ≤ x ∧ x ≤ 40) <;> simp
    · rw [if_pos (decide_eq_true c1), if_neg (by omega), decide_eq_false c2]
      simp
  · rw [if_neg (by simpa using c1), decide_eq_false c1]
    rfl
theorem isHouse_eq (s d : List Int) (hm : d.length ≤ 4000000000) : impl_IsHouse.f s d = some (hsB s d) := by
  simp only [impl_IsHouse.f, within_eq, Option.bind_some, hsB, cf_IsHouse1.f, cf_IsHouse2.f]
  rw [wr (x := (d.length : Int) - 1) (by omega) (by omega)]
  by_cases c1 : 2 ≤ (d.length : Int) ∧ (d.length : Int) ≤ 12
  · by_cases c2 : (s.length : Int) + 1 = d.length
    · rw [if_pos (show s.length ≤ 9223372036854775807 by omega), if_pos (show d.length ≤ 9223372036854775807 by omega), if_pos (decide_eq_true c1), if_pos (by omega), decide_eq_true c1, decide_eq_true c2, any_not, any_not]
      simp only [Option.bind_some, Bool.true_and]
      cases s.all fun x => decide (1 ≤ x ∧ x ≤ 40) <;> simp
    · rw [if_pos (decide_eq_true c1), if_neg (by omega), decide_eq_false c2]
      simp
  · rw [if_neg (by simpa using c1), decide_eq_false c1]
    rfl
/-- The size that the laws ask. -/
theorem sz_val (s d : List Int) (hs : s.length ≤ maxLen) (hd : d.length ≤ maxLen) : (s.length ≤ 1048576 ∧ d.length ≤ 1048576 ∧ ∃ n : Int, laws_szHouse.f s d 1048576 = some n ∧ ¬ n < 0) ∨ ∃ n : Int, laws_szHouse.f s d 1048576 = some n ∧ n < 0 := by
  unfold maxLen at hs hd
  simp only [laws_szHouse.f, laws_szIntS.f]
  rw [wr (x := (1048576 : Int) - (s.length : Int)) (by omega) (by omega)]
  by_cases c : (1048576 : Int) - (s.length : Int) < 0
  · rw [if_pos c]
    exact .inr ⟨-1, rfl, by omega⟩
  · rw [if_neg c]
    simp only [Option.bind_some]
    rw [if_neg c, wr (x := (1048576 : Int) - (s.length : Int) - (d.length : Int)) (by omega) (by omega)]
    by_cases c2 : (1048576 : Int) - (s.length : Int) - (d.length : Int) < 0
    · rw [if_pos c2]
      exact .inr ⟨-1, rfl, by omega⟩
    · rw [if_neg c2]
      simp only [Option.bind_some]
      rw [if_neg c2]
      exact .inl ⟨by omega, by omega, _, rfl, c2⟩
theorem toI_l (l : List Int) (t : List Int) : ∀ (k : Nat) (pre : List Int), l = pre ++ t → l.length ≤ 2000000 → t.length < k → laws_toIntS.l0 k l (pre ++ List.replicate t.length 0) (pre.length : Int) = some l := by
  induction t with
  | nil =>
    intro k pre e hl hk
    obtain ⟨k, rfl⟩ : ∃ m, k = m + 1 := ⟨k - 1, by omega⟩
    subst e
    simp only [laws_toIntS.l0, List.length_nil, List.replicate_zero, List.append_nil]
    rw [if_neg (by omega)]
  | cons x t ih =>
    intro k pre e hl hk
    simp only [List.length_cons] at hk
    obtain ⟨k, rfl⟩ : ∃ m, k = m + 1 := ⟨k - 1, by omega⟩
    have hlen : l.length = pre.length + (t.length + 1) := by rw [e]; simp
    have ew : wrap64 ((pre.length : Int) + 1) = ((pre.length + 1 : Nat) : Int) := by rw [wr (by omega) (by omega)]; omega
    have er : rd l (pre.length : Int) = x := by rw [e]; simp [rd, List.getD]
    have es : (pre ++ List.replicate (t.length + 1) (0 : Int)).set ((pre.length : Int)).toNat x = (pre ++ [x]) ++ List.replicate t.length 0 := by
      rw [Int.toNat_natCast, List.set_append_right _ _ (Nat.le_refl _), Nat.sub_self, List.replicate_succ]
      simp
    have := ih k (pre ++ [x]) (by rw [e]; simp) hl (by omega)
    rw [show (pre ++ [x]).length = pre.length + 1 by simp] at this
    simp only [laws_toIntS.l0, List.length_cons, ew, er, es]
    rw [if_pos (by omega), if_pos (by omega), if_pos (by simp only [List.length_append, List.length_replicate]; omega), this]
theorem toI_val (l : List Int) (hl : l.length ≤ 2000000) (k : Nat) (hk : 2000000 < k) : laws_toIntS.f k l = some l := by
  have := toI_l l l k [] rfl hl (by omega)
  simp only [laws_toIntS.f, Int.toNat_natCast]
  rw [if_pos (by omega), if_pos (by omega)]
  simpa using this
theorem toHouse_val (s d : List Int) (hs : s.length ≤ 1048576) (hd : d.length ≤ 1048576) (k : Nat) (hk : 2000000 < k) : laws_toHouse.f k s d = some (s, d) := by
  simp only [laws_toHouse.f, toI_val s (by omega) k hk, toI_val d (by omega) k hk, Option.bind_some]
theorem eqI_l (l : List Int) (hl : l.length ≤ 4000000) (n : Nat) : ∀ (k : Nat) (i : Nat), i + n = l.length → n < k → laws_eqIntS.l0 k l l (i : Int) = some true := by
  induction n with
  | zero =>
    intro k i hd hk
    obtain ⟨k, rfl⟩ : ∃ m, k = m + 1 := ⟨k - 1, by omega⟩
    simp only [laws_eqIntS.l0]
    rw [if_neg (by omega)]
  | succ n ih =>
    intro k i hd hk
    obtain ⟨k, rfl⟩ : ∃ m, k = m + 1 := ⟨k - 1, by omega⟩
    have ew : wrap64 ((i : Int) + 1) = ((i + 1 : Nat) : Int) := by rw [wr (by omega) (by omega)]; omega
    simp only [laws_eqIntS.l0, ew]
    rw [if_pos (by omega), if_pos (by omega), if_pos (by omega), if_pos trivial, ih k (i + 1) (by omega) (by omega)]
theorem eqI_val (l : List Int) (hl : l.length ≤ 2000000) (k : Nat) (hk : 2000000 < k) : laws_eqIntS.f k l l = some true := by
  unfold laws_eqIntS.f
  rw [if_pos rfl]
  exact eqI_l l (by omega) l.length k 0 (by omega) (by omega)
theorem eqHouse_val (s d : List Int) (hs : s.length ≤ 1048576) (hd : d.length ≤ 1048576) (k : Nat) (hk : 2000000 < k) : laws_eqHouse.f k s d s d = some true := by
  simp only [laws_eqHouse.f, eqI_val s (by omega) k hk, eqI_val d (by omega) k hk, Option.bind_some, if_true]
/-- Sums of few small numbers. -/
def isum : List Int → Int
  | [] => 0
  | x :: t => x + isum t
theorem isum_append (a b : List Int) : isum (a ++ b) = isum a + isum b := by
  induction a with
  | nil => simp [isum]
  | cons x t ih => simp only [List.cons_append, isum, ih]; omega
def Small (l : List Int) : Prop := l.length ≤ 20 ∧ ∀ x ∈ l, 0 ≤ x ∧ x ≤ 40
theorem isum_bd (l : List Int) (h : ∀ x ∈ l, 0 ≤ x ∧ x ≤ 40) : 0 ≤ isum l ∧ isum l ≤ 40 * l.length := by
  induction l with
  | nil => simp [isum]
  | cons x t ih =>
    have h1 := h x (by simp)
    have h2 := ih (fun y hy => h y (by simp [hy]))
    simp only [isum, List.length_cons]
    omega
theorem Small.bd {l : List Int} (h : Small l) : 0 ≤ isum l ∧ isum l ≤ 800 := by
  have := isum_bd l h.2
  have := h.1
  omega
theorem Small.take {l : List Int} (h : Small l) (n : Nat) : Small (l.take n) := ⟨Nat.le_trans (List.length_take_le' _ _) h.1, fun x hx => h.2 x (List.mem_of_mem_take hx)⟩
theorem Small.drop {l : List Int} (h : Small l) (n : Nat) : Small (l.drop n) := ⟨by rw [List.length_drop]; have := h.1; omega, fun x hx => h.2 x (List.mem_of_mem_drop hx)⟩
theorem small_s {s d : List Int} (h : hsB s d = true) : Small s := by
  have f := hsB_facts h
  exact ⟨by omega, fun x hx => by have := f.2.2.2.1 x hx; omega⟩
theorem small_d {s d : List Int} (h : hsB s d = true) : Small d := by
  have f := hsB_facts h
  exact ⟨by omega, fun x hx => by have := f.2.2.2.2 x hx; omega⟩
/-! ### numbers as text -/
section Num
open Go.Lib
theorem u8_dig (d : Nat) (h : d < 10) : (UInt8.ofNat (48 + d)).toNat = 48 + d := by
  rw [UInt8.toNat_ofNat']; exact Nat.mod_eq_of_lt (by omega)
theorem dd_step (n : Nat) (h : ¬ n < 10) : decDigits n = decDigits (n / 10) ++ [UInt8.ofNat (48 + n % 10)] := by rw [decDigits, dif_neg h]
theorem dd_len (k : Nat) : ∀ n, n < 10 ^ (k + 1) → (decDigits n).length ≤ k + 1 := by
  induction k with
  | zero => intro n h; rw [decDigits_one (by simpa using h)]; simp
  | succ k ih =>
    intro n h
    by_cases c : n < 10
    · rw [decDigits_one c]; simp
    · rw [dd_step n c, List.length_append]
      have := ih (n / 10) (by rw [Nat.pow_succ] at h; omega)
      simpa using this
theorem dd_pos (n : Nat) : 1 ≤ (decDigits n).length := by
  by_cases c : n < 10
  · rw [decDigits_one c]; simp
  · rw [dd_step n c]; simp
theorem dd_ne (n : Nat) : decDigits n ≠ [] := by intro h; have := dd_pos n; rw [h] at this; simp at this
theorem dd_digit (n : Nat) : ∀ c ∈ decDigits n, 48 ≤ c.toNat ∧ c.toNat ≤ 57 := by
  induction n using Nat.strongRecOn with
  | _ n ih =>
    intro c hc
    by_cases h : n < 10
    · rw [decDigits_one h] at hc
      obtain rfl := List.mem_singleton.1 hc
      rw [u8_dig n h]; omega
    · rw [dd_step n h, List.mem_append] at hc
      rcases hc with hc | hc
      · exact ih (n / 10) (by omega) c hc
      · obtain rfl := List.mem_singleton.1 hc
        rw [u8_dig (n % 10) (by omega)]; omega
theorem hd_app {l r : List UInt8} (h : l ≠ []) : (l ++ r).head? = l.head? := by
  cases l with
  | nil => exact absurd rfl h
  | cons _ _ => rfl
theorem dd_head (n : Nat) (h1 : 1 ≤ n) : (decDigits n).head? ≠ some 48 := by
  induction n using Nat.strongRecOn with
  | _ n ih =>
    by_cases h : n < 10
    · rw [decDigits_one h]
      intro e
      have e' : UInt8.ofNat (48 + n) = 48 := by simpa using e
      have := congrArg UInt8.toNat e'
      rw [u8_dig n h] at this
      have z : (48 : UInt8).toNat = 48 := rfl
      omega
    · rw [dd_step n h, hd_app (dd_ne _)]
      exact ih (n / 10) (by omega) (by omega)
/-- reading on, behind digits -/
theorem df_app (l : List UInt8) (c : UInt8) : ∀ acc, decFrom acc (l ++ [c]) = (decFrom acc l).bind fun a => (digitVal c).map fun d => a * 10 + d := by
  induction l with
  | nil => intro acc; simp only [List.nil_append, decFrom, Option.bind_some]; cases digitVal c <;> rfl
  | cons b r ih =>
    intro acc
    simp only [List.cons_append, decFrom]
    cases digitVal b with
    | none => rfl
    | some d => exact ih _
theorem dv_dig (d : Nat) (h : d < 10) : digitVal (UInt8.ofNat (48 + d)) = some d := by
  unfold digitVal; rw [u8_dig d h, if_pos (by omega)]; congr 1; omega
theorem df_dec (n : Nat) : decFrom 0 (decDigits n) = some n := by
  induction n using Nat.strongRecOn with
  | _ n ih =>
    by_cases h : n < 10
    · rw [decDigits_one h]; simp only [decFrom, dv_dig n h]; congr 1; omega
    · rw [dd_step n h, df_app, ih (n / 10) (by omega), Option.bind_some, dv_dig _ (by omega), Option.map_some]; congr 1; omega
theorem dv_back {c : UInt8} {d : Nat} (h : digitVal c = some d) : d < 10 ∧ c = UInt8.ofNat (48 + d) := by
  obtain ⟨h1, h2, h3⟩ := digitVal_eq h
  refine ⟨by omega, ?_⟩
  apply UInt8.toNat_inj.1
  rw [u8_dig d (by omega)]; omega
/-- digits without a superfluous zero are the digits of what they spell -/
theorem df_canon : ∀ (k : Nat) (l : List UInt8) (m : Nat), l.length = k → l ≠ [] → (l.head? = some 48 → l.length = 1) → decFrom 0 l = some m → decDigits m = l ∧ (l.head? ≠ some 48 → 1 ≤ m)
  | 0, l, m, hk, hne, _, _ => absurd (List.eq_nil_of_length_eq_zero hk) hne
  | k + 1, l, m, hk, hne, hz, hm => by
    obtain ⟨r, c, rfl⟩ : ∃ r c, l = r ++ [c] := ⟨l.dropLast, l.getLast hne, (List.dropLast_concat_getLast hne).symm⟩
    rw [df_app] at hm
    cases hr : decFrom 0 r with
    | none => rw [hr] at hm; cases hm
    | some a =>
      rw [hr, Option.bind_some] at hm
      cases hd : digitVal c with
      | none => rw [hd] at hm; cases hm
      | some d =>
        rw [hd, Option.map_some] at hm
        obtain rfl := Option.some.inj hm
        obtain ⟨d10, rfl⟩ := dv_back hd
        by_cases e : r = []
        · subst e
          simp only [decFrom] at hr
          obtain rfl := Option.some.inj hr
          rw [show 0 * 10 + d = d by omega, decDigits_one d10]
          refine ⟨rfl, fun h => ?_⟩
          rcases Nat.eq_zero_or_pos d with z | z
          · subst z; exact absurd rfl h
          · exact z
        · have hh : (r ++ [UInt8.ofNat (48 + d)]).head? = r.head? := hd_app e
          have hr1 : 1 ≤ r.length := by cases r with | nil => exact absurd rfl e | cons _ _ => simp
          have nz : r.head? ≠ some 48 := fun h => by
            have := hz (hh.trans h)
            simp only [List.length_append, List.length_cons, List.length_nil] at this
            omega
          obtain ⟨i1, i2⟩ := df_canon k r a (by simpa using hk) e (fun h => absurd h nz) hr
          have := i2 nz
          refine ⟨?_, fun _ => by omega⟩
          rw [dd_step (a * 10 + d) (by omega), show (a * 10 + d) / 10 = a by omega, show (a * 10 + d) % 10 = d by omega, i1]
/-- what the library's reading makes of digits -/
theorem pu_of_df : ∀ (l : List UInt8) (acc m : Nat), decFrom acc l = some m → l.length ≤ 8 → acc < 1000000000 * 10 ^ (8 - l.length) → parseUint10 acc l = .ok m
  | [], acc, m, h, _, _ => by simp only [decFrom] at h; obtain rfl := Option.some.inj h; rfl
  | c :: r, acc, m, h, hl, ha => by
    simp only [decFrom] at h
    cases hd : digitVal c with
    | none => rw [hd] at h; cases h
    | some d =>
      rw [hd] at h
      obtain ⟨h1, h2, h3⟩ := digitVal_eq hd
      simp only [List.length_cons] at hl ha
      have hp : 10 ^ (8 - r.length) = 10 * 10 ^ (8 - (r.length + 1)) := by
        rw [show 8 - r.length = (8 - (r.length + 1)) + 1 by omega, Nat.pow_succ]; omega
      have hb : 10 ^ (8 - (r.length + 1)) ≤ 10 ^ 7 := Nat.pow_le_pow_right (by decide) (by omega)
      have e7 : (10 : Nat) ^ 7 = 10000000 := by decide
      simp only [parseUint10]
      rw [if_pos ⟨h1, h2⟩, if_neg (by omega), if_neg (by omega), ← h3]
      exact pu_of_df r (acc * 10 + d) m h (by omega) (by rw [hp]; omega)
theorem atoi_dec (n : Nat) (h : n ≤ 999999) : atoiAll (decDigits n) = .ok (n : Int) := by
  have hl := dd_len 5 n (by omega)
  have hp : parseMag (decDigits n) = .ok n := by
    unfold parseMag
    rw [if_neg (dd_ne n)]
    exact pu_of_df _ _ _ (df_dec n) (by omega) (Nat.mul_pos (by decide) (Nat.pow_pos (by decide)))
  cases e : decDigits n with
  | nil => exact absurd e (dd_ne n)
  | cons c r =>
    have hc := dd_digit n c (by rw [e]; simp)
    rw [atoiAll_plain c r (by omega) (by omega), ← e, hp]
    simp only [signless]
    rw [if_neg (by omega)]
/-- what the program's num tells -/
def numOf (l : List UInt8) : Int :=
  match atoiAll l with
  | .ok v => if v < 0 then -1 else if 999999 < v then -1 else if itoa v = l then v else -1
  | _ => -1
theorem itoa_dec (n : Nat) : itoa (n : Int) = decDigits n := by
  unfold itoa; rw [if_neg (by omega)]; rfl
theorem numOf_dec (n : Nat) (h : n ≤ 999999) : numOf (decDigits n) = n := by
  unfold numOf
  rw [atoi_dec n h]
  simp only
  rw [if_neg (by omega), if_neg (by omega), if_pos (itoa_dec n)]
theorem numOf_cases (l : List UInt8) : numOf l = -1 ∨ ∃ n : Nat, n ≤ 999999 ∧ numOf l = n ∧ l = decDigits n := by
  unfold numOf
  cases atoiAll l with
  | ok v =>
    simp only
    by_cases c1 : v < 0
    · rw [if_pos c1]; exact .inl rfl
    · rw [if_neg c1]
      by_cases c2 : 999999 < v
      · rw [if_pos c2]; exact .inl rfl
      · rw [if_neg c2]
        by_cases c3 : itoa v = l
        · rw [if_pos c3]
          obtain ⟨n, rfl⟩ : ∃ n : Nat, v = n := ⟨v.toNat, by omega⟩
          exact .inr ⟨n, by omega, rfl, by rw [← c3, itoa_dec]⟩
        · rw [if_neg c3]; exact .inl rfl
  | «syntax» => exact .inl rfl
  | range => exact .inl rfl
/-- what the reference's l1Read tells -/
def readOf (l : List UInt8) : Int :=
  if 1 ≤ l.length ∧ l.length ≤ 6 ∧ (l.head? = some 48 → l.length = 1) then (match decFrom 0 l with | some m => (m : Int) | none => -1) else -1
theorem readOf_eq (l : List UInt8) : readOf l = numOf l := by
  have key : ∀ n : Nat, n ≤ 999999 → readOf (decDigits n) = n := fun n h => by
    unfold readOf
    have h1 := dd_pos n
    have h6 := dd_len 5 n (by omega)
    have hz : (decDigits n).head? = some 48 → (decDigits n).length = 1 := fun hz => by
      rcases Nat.eq_zero_or_pos n with z | z
      · subst z; rw [decDigits_one (by omega)]; rfl
      · exact absurd hz (dd_head n z)
    rw [if_pos ⟨h1, h6, hz⟩, df_dec n]
  have back : readOf l = -1 ∨ ∃ n : Nat, n ≤ 999999 ∧ l = decDigits n := by
    unfold readOf
    by_cases c : 1 ≤ l.length ∧ l.length ≤ 6 ∧ (l.head? = some 48 → l.length = 1)
    · rw [if_pos c]
      cases hm : decFrom 0 l with
      | none => exact .inl rfl
      | some m =>
        have hlt := decFrom_lt l 0 m hm
        have hp : 10 ^ l.length ≤ 10 ^ 6 := Nat.pow_le_pow_right (by decide) c.2.1
        have e6 : (10 : Nat) ^ 6 = 1000000 := by decide
        refine .inr ⟨m, by omega, ((df_canon l.length l m rfl (fun e => by rw [e] at c; simp at c) c.2.2 hm).1).symm⟩
    · rw [if_neg c]; exact .inl rfl
  rcases numOf_cases l with h | ⟨n, hn, h, rfl⟩
  · rcases back with h' | ⟨n, hn, rfl⟩
    · rw [h, h']
    · rw [numOf_dec n hn, key n hn]
  · rw [h, key n hn]
theorem numOf_bounds (l : List UInt8) : -1 ≤ numOf l ∧ numOf l ≤ 999999 := by
  rcases numOf_cases l with h | ⟨n, hn, h, _⟩ <;> rw [h] <;> omega
/-- what holds a byte that is no digit is no number -/
theorem numOf_none {l : List UInt8} {c : UInt8} (h : c ∈ l) (hc : c.toNat < 48 ∨ 57 < c.toNat) : numOf l = -1 := by
  rcases numOf_cases l with h' | ⟨n, hn, _, rfl⟩
  · exact h'
  · have := dd_digit n c h; omega
theorem numOf_nil : numOf [] = -1 := rfl
theorem numOf_len {l : List UInt8} {k : Nat} (hk : numOf l < 10 ^ (k + 1)) (h0 : 0 ≤ numOf l) : 1 ≤ l.length ∧ l.length ≤ k + 1 := by
  rcases numOf_cases l with h' | ⟨n, hn, e, rfl⟩
  · omega
  · exact ⟨dd_pos n, dd_len k n (by rw [e] at hk; exact_mod_cast hk)⟩
end Num
/-! ### texts cut at a byte -/
section Spl
open Go.Lib
def spl (b : UInt8) : List UInt8 → List (List UInt8)
  | [] => [[]]
  | c :: r => if c = b then [] :: spl b r else (match spl b r with | h :: t => (c :: h) :: t | [] => [[c]])
theorem spl_ne (b : UInt8) (l : List UInt8) : spl b l ≠ [] := by
  cases l with
  | nil => simp [spl]
  | cons c r => unfold spl; split <;> (try simp); split <;> simp
theorem spl_hit (b : UInt8) (y : List UInt8) : ∀ x : List UInt8, b ∉ x → spl b (x ++ b :: y) = x :: spl b y
  | [], _ => by simp [spl]
  | c :: r, h => by
    have hc : c ≠ b := fun e => h (by simp [e])
    rw [List.cons_append, spl, if_neg hc, spl_hit b y r (fun e => h (by simp [e]))]
theorem spl_miss (b : UInt8) : ∀ x : List UInt8, b ∉ x → spl b x = [x]
  | [], _ => rfl
  | c :: r, h => by
    have hc : c ≠ b := fun e => h (by simp [e])
    rw [spl, if_neg hc, spl_miss b r (fun e => h (by simp [e]))]
theorem mem_parts (b : UInt8) : ∀ l : List UInt8, b ∈ l → ∃ x y, l = x ++ b :: y ∧ b ∉ x
  | [], h => by cases h
  | c :: r, h => by
    by_cases e : c = b
    · exact ⟨[], r, by simp [e], by simp⟩
    · obtain ⟨x, y, rfl, hx⟩ := mem_parts b r (by simpa [Ne.symm e] using h)
      exact ⟨c :: x, y, rfl, by simp [hx, Ne.symm e]⟩
theorem index_hit (b : UInt8) (y : List UInt8) : ∀ x : List UInt8, b ∉ x → index (x ++ b :: y) [b] = (x.length : Int)
  | [], _ => by rw [List.nil_append, index]; simp [List.isPrefixOf]
  | c :: r, h => by
    have hc : c ≠ b := fun e => h (by simp [e])
    rw [List.cons_append, index, index_hit b y r (fun e => h (by simp [e]))]
    have hp : ([b] : List UInt8).isPrefixOf (c :: (r ++ b :: y)) = false := by simp [List.isPrefixOf, Ne.symm hc]
    rw [hp]
    have : ((r.length : Int) == -1) = false := by rw [beq_eq_false_iff_ne]; omega
    simp [this]
theorem index_miss (b : UInt8) : ∀ x : List UInt8, b ∉ x → index x [b] = -1
  | [], _ => by simp [index]
  | c :: r, h => by
    have hc : c ≠ b := fun e => h (by simp [e])
    rw [index, index_miss b r (fun e => h (by simp [e]))]
    have hp : ([b] : List UInt8).isPrefixOf (c :: r) = false := by simp [List.isPrefixOf, Ne.symm hc]
    rw [hp]; simp
theorem cut_hit (b : UInt8) (x y : List UInt8) (h : b ∉ x) : cut (x ++ b :: y) [b] = (x, y, true) := by
  unfold cut
  rw [index_hit b y x h, if_pos (by omega)]
  simp
theorem cut_miss (b : UInt8) (x : List UInt8) (h : b ∉ x) : cut x [b] = (x, [], false) := by
  unfold cut
  rw [index_miss b x h, if_neg (by omega)]
theorem splitK_eq (b : UInt8) : ∀ (k : Nat) (l : List UInt8), l.count b ≤ k → splitK [b] 0 k l = spl b l
  | 0, l, h => by
    have : b ∉ l := fun hm => by have := List.count_pos_iff.2 hm; omega
    rw [spl_miss b l this]; rfl
  | k + 1, l, h => by
    by_cases hm : b ∈ l
    · obtain ⟨x, y, rfl, hx⟩ := mem_parts b l hm
      have e := index_hit b y x hx
      rw [splitK, e, if_neg (by simp), spl_hit b y x hx]
      have ht : (x ++ b :: y).take (((x.length : Int)).toNat + 0) = x := by simp
      have hd : (x ++ b :: y).drop (((x.length : Int)).toNat + [b].length) = y := by simp
      rw [ht, hd, splitK_eq b k y (by rw [List.count_append, List.count_cons_self] at h; omega)]
    · rw [splitK, index_miss b l hm, if_pos (by rfl), spl_miss b l hm]
theorem split_eq (b : UInt8) (l : List UInt8) : split l [b] = spl b l := splitK_eq b _ l (by rw [count_one]; exact Nat.le_refl _)
end Spl
section Txt
open Go.Lib
def nm (n : Int) : ByteArray := ⟨(itoa n).toArray⟩
theorem nm_size (n : Int) : (nm n).size = (itoa n).length := by simp [nm, ByteArray.size]
theorem nm_le (n : Int) (h0 : -9223372036854775808 ≤ n) (h1 : n ≤ 9223372036854775807) : (nm n).size ≤ 21 := by rw [nm_size]; exact itoa_length_le n h0 h1
theorem one_eq (d : Int) (h0 : 0 ≤ d) (h : d < 10) : strOfNums [(wrap64 (48 + d)) % 256] = ⟨#[UInt8.ofNat (48 + d.toNat)]⟩ := by
  have e : (wrap64 (48 + d)) % 256 = 48 + d := by unfold wrap64; omega
  rw [e]
  simp only [strOfNums, List.map_cons, List.map_nil]
  rw [show (48 + d).toNat = 48 + d.toNat by omega]
theorem l1Num_eq (k : Nat) : ∀ (n : Nat), n < 10 ^ (k + 1) → k ≤ 18 → ∀ K, k < K → spec_l1Num.f K (n : Int) = some (nm n) := by
  induction k with
  | zero =>
    intro n h _ K hK
    obtain ⟨K, rfl⟩ : ∃ m, K = m + 1 := ⟨K - 1, by omega⟩
    have h' : n < 10 := by simpa using h
    simp only [spec_l1Num.f]
    rw [if_pos (by omega), one_eq n (by omega) (by omega)]
    unfold nm
    rw [itoa_dec, decDigits_one h', Int.toNat_natCast]
  | succ k ih =>
    intro n h hk K hK
    obtain ⟨K, rfl⟩ : ∃ m, K = m + 1 := ⟨K - 1, by omega⟩
    simp only [spec_l1Num.f]
    by_cases c : n < 10
    · rw [if_pos (by omega), one_eq n (by omega) (by omega)]
      unfold nm
      rw [itoa_dec, decDigits_one c, Int.toNat_natCast]
    · have hn : n / 10 < 10 ^ (k + 1) := by rw [Nat.pow_succ] at h; omega
      have hp : 10 ^ (k + 1) ≤ 10 ^ 18 := Nat.pow_le_pow_right (by decide) (by omega)
      have e18 : (10 : Nat) ^ 18 = 1000000000000000000 := by decide
      have e1 : Int.tdiv (n : Int) 10 = ((n / 10 : Nat) : Int) := (Int.ofNat_tdiv n 10).symm
      have e2 : Int.tmod (n : Int) 10 = ((n % 10 : Nat) : Int) := (Int.ofNat_tmod n 10).symm
      have e3 : wrap64 (((n / 10 : Nat) : Int)) = ((n / 10 : Nat) : Int) := by unfold wrap64; omega
      rw [if_neg (by omega), e1, e3, ih (n / 10) hn (by omega) K (by omega), e2]
      simp only [Option.bind_some]
      rw [one_eq _ (by omega) (by omega)]
      have hl := dd_len k (n / 10) hn
      have hs : (nm ((n / 10 : Nat) : Int)).size = (decDigits (n / 10)).length := by rw [nm_size, itoa_dec]
      rw [if_pos (by rw [hs]; simp [ByteArray.size]; omega)]
      congr 1
      unfold nm
      rw [itoa_dec n, itoa_dec (n / 10), dd_step n c, Int.toNat_natCast]
      apply ByteArray.ext
      simp
theorem l1Num_int (a : Int) (h0 : 0 ≤ a) (h1 : a ≤ 1000000) (K : Nat) (hK : 20 ≤ K) : spec_l1Num.f K a = some (nm a) := by
  obtain ⟨n, rfl⟩ : ∃ n : Nat, a = n := ⟨a.toNat, by omega⟩
  exact l1Num_eq 18 n (by have e : (10 : Nat) ^ (18 + 1) = 10000000000000000000 := by decide
                          omega) (by omega) K (by omega)
theorem itoa_eq (a : Int) (h0 : 0 ≤ a) (h1 : a ≤ 1000000) : strconv_Itoa_108.f a = some (nm a) := by
  unfold strconv_Itoa_108.f
  rw [if_pos (by omega)]; rfl
theorem nm_le' (a : Int) (h0 : 0 ≤ a) (h1 : a ≤ 1000000) : (nm a).size ≤ 21 := nm_le a (by omega) (by omega)
end Txt
section Htx
open Go.Lib
/-- what stands behind the first doors -/
def htl : List Int → List Int → List UInt8
  | a :: s, b :: d => 94 :: (itoa a ++ (58 :: (itoa b ++ htl s d)))
  | _, _ => []
def hTxt (s d : List Int) : ByteArray := ⟨(itoa (rd d 0) ++ htl s (d.drop 1)).toArray⟩
theorem ba_app (a b : List UInt8) : (⟨a.toArray⟩ : ByteArray) ++ ⟨b.toArray⟩ = ⟨(a ++ b).toArray⟩ := by
  apply ByteArray.ext; simp
theorem htx_step (x : List UInt8) (a b : Int) : (⟨x.toArray⟩ : ByteArray) ++ ((((⟨#[94]⟩ : ByteArray) ++ nm a) ++ (⟨#[58]⟩ : ByteArray)) ++ nm b) = ⟨(x ++ 94 :: (itoa a ++ (58 :: itoa b))).toArray⟩ := by
  have e1 : (⟨#[94]⟩ : ByteArray) = ⟨[94].toArray⟩ := rfl
  have e2 : (⟨#[58]⟩ : ByteArray) = ⟨[58].toArray⟩ := rfl
  unfold nm
  rw [e1, e2, ba_app, ba_app, ba_app, ba_app]
  simp
theorem specText_l0 (s d : List Int) (hl : s.length + 1 = d.length) (hd : d.length ≤ 12) (hs : ∀ x ∈ s, 1 ≤ x ∧ x ≤ 40) (hdd : ∀ x ∈ d, 0 ≤ x ∧ x ≤ 20) :
    ∀ (n i K : Nat) (x : List UInt8), i + n = s.length → n + 21 ≤ K → x.length ≤ 21 + 44 * i → spec_ldText.l0 K ⟨x.toArray⟩ s (s.length : Int) (i : Int) s d = some ⟨(x ++ htl (s.drop i) (d.drop (i + 1))).toArray⟩
  | 0, i, K, x, hi, hK, hx => by
    obtain ⟨K, rfl⟩ : ∃ m, K = m + 1 := ⟨K - 1, by omega⟩
    simp only [spec_ldText.l0]
    rw [if_neg (by omega), List.drop_of_length_le (by omega)]
    simp [htl]
  | n + 1, i, K, x, hi, hK, hx => by
    obtain ⟨K, rfl⟩ : ∃ m, K = m + 1 := ⟨K - 1, by omega⟩
    have h1 : i < s.length := by omega
    have h2 : i + 1 < d.length := by omega
    have ew : wrap64 ((i : Int) + 1) = ((i + 1 : Nat) : Int) := by rw [wr (by omega) (by omega)]; omega
    have b1 := hs s[i] (List.getElem_mem h1)
    have b2 := hdd d[i + 1] (List.getElem_mem h2)
    have z1 := nm_le' s[i] (by omega) (by omega)
    have z2 := nm_le' d[i + 1] (by omega) (by omega)
    have o1 : (⟨#[94]⟩ : ByteArray).size = 1 := rfl
    have o2 : (⟨#[58]⟩ : ByteArray).size = 1 := rfl
    have o3 : (⟨x.toArray⟩ : ByteArray).size = x.length := by simp [ByteArray.size]
    simp only [spec_ldText.l0, ew, rd_nat s i h1, rd_nat d (i + 1) h2]
    rw [if_pos (by omega), if_pos (by omega), if_pos (by omega), l1Num_int s[i] (by omega) (by omega) K (by omega), l1Num_int d[i + 1] (by omega) (by omega) K (by omega)]
    simp only [Option.bind_some, ByteArray.size_append]
    rw [if_pos (by omega), if_pos (by omega), if_pos (by omega), if_pos (by omega), if_pos (by omega), if_pos (by omega), htx_step,
      specText_l0 s d hl hd hs hdd n (i + 1) K _ (by omega) (by omega) (by
        rw [nm_size] at z1 z2
        simp only [List.length_append, List.length_cons]; omega)]
    rw [List.drop_eq_getElem_cons h1, List.drop_eq_getElem_cons h2]
    simp [htl]
theorem implText_l0 (s d : List Int) (hl : s.length + 1 = d.length) (hd : d.length ≤ 12) (hs : ∀ x ∈ s, 1 ≤ x ∧ x ≤ 40) (hdd : ∀ x ∈ d, 0 ≤ x ∧ x ≤ 20) :
    ∀ (n i K : Nat) (x : List UInt8), i + n = s.length → n + 21 ≤ K → x.length ≤ 21 + 44 * i → impl_HouseText.l0 K ⟨x.toArray⟩ s (s.length : Int) (i : Int) s d = some (⟨(x ++ htl (s.drop i) (d.drop (i + 1))).toArray⟩, true)
  | 0, i, K, x, hi, hK, hx => by
    obtain ⟨K, rfl⟩ : ∃ m, K = m + 1 := ⟨K - 1, by omega⟩
    simp only [impl_HouseText.l0]
    rw [if_neg (by omega), List.drop_of_length_le (by omega)]
    simp [htl]
  | n + 1, i, K, x, hi, hK, hx => by
    obtain ⟨K, rfl⟩ : ∃ m, K = m + 1 := ⟨K - 1, by omega⟩
    have h1 : i < s.length := by omega
    have h2 : i + 1 < d.length := by omega
    have ew : wrap64 ((i : Int) + 1) = ((i + 1 : Nat) : Int) := by rw [wr (by omega) (by omega)]; omega
    have b1 := hs s[i] (List.getElem_mem h1)
    have b2 := hdd d[i + 1] (List.getElem_mem h2)
    have z1 := nm_le' s[i] (by omega) (by omega)
    have z2 := nm_le' d[i + 1] (by omega) (by omega)
    have o1 : (⟨#[94]⟩ : ByteArray).size = 1 := rfl
    have o2 : (⟨#[58]⟩ : ByteArray).size = 1 := rfl
    have o3 : (⟨x.toArray⟩ : ByteArray).size = x.length := by simp [ByteArray.size]
    simp only [impl_HouseText.l0, ew, rd_nat s i h1, rd_nat d (i + 1) h2]
    rw [if_pos (by omega), if_pos (by omega), if_pos (by omega), itoa_eq s[i] (by omega) (by omega), itoa_eq d[i + 1] (by omega) (by omega)]
    simp only [Option.bind_some, ByteArray.size_append]
    rw [if_pos (by omega), if_pos (by omega), if_pos (by omega), if_pos (by omega), if_pos (by omega), if_pos (by omega), htx_step,
      implText_l0 s d hl hd hs hdd n (i + 1) K _ (by omega) (by omega) (by
        rw [nm_size] at z1 z2
        simp only [List.length_append, List.length_cons]; omega)]
    rw [List.drop_eq_getElem_cons h1, List.drop_eq_getElem_cons h2]
    simp [htl]
def hOut (s d : List Int) : ByteArray × Bool := if hsB s d = true then (hTxt s d, true) else ((⟨#[]⟩ : ByteArray), false)
theorem ldText_eq (s d : List Int) (h : hsB s d = true) (K : Nat) (hK : 100 ≤ K) : spec_ldText.f K s d = some (hTxt s d) := by
  obtain ⟨h1, h2, h3, h4, h5⟩ := hsB_facts h
  have e0 : rd d 0 = d[0] := rd_nat d 0 (by omega)
  have b := h5 d[0] (List.getElem_mem (by omega))
  have z := nm_le' d[0] (by omega) (by omega)
  rw [nm_size] at z
  unfold spec_ldText.f
  rw [if_pos (by omega), e0, l1Num_int d[0] (by omega) (by omega) K (by omega)]
  simp only [Option.bind_some]
  have := specText_l0 s d h3 h2 h4 h5 s.length 0 K (itoa d[0]) (by omega) (by omega) (by omega)
  unfold hTxt
  rw [e0]
  exact this
theorem houseText_spec (s d : List Int) (hm : d.length ≤ 4000000000) (K : Nat) (hK : 100 ≤ K) : spec_HouseText.f K s d = some (hOut s d) := by
  unfold spec_HouseText.f hOut
  rw [ldGood_eq s d hm K (by omega)]
  simp only [Option.bind_some]
  by_cases h : hsB s d = true
  · rw [if_pos h, if_pos h, ldText_eq s d h K hK]; rfl
  · rw [if_neg h, if_neg h]
theorem houseText_impl (s d : List Int) (hm : d.length ≤ 4000000000) (K : Nat) (hK : 100 ≤ K) : impl_HouseText.f K s d = some (hOut s d) := by
  unfold impl_HouseText.f hOut
  rw [isHouse_eq s d hm]
  simp only [Option.bind_some]
  by_cases h : hsB s d = true
  · rw [if_pos h, if_pos h]
    obtain ⟨h1, h2, h3, h4, h5⟩ := hsB_facts h
    have e0 : rd d 0 = d[0] := rd_nat d 0 (by omega)
    have b := h5 d[0] (List.getElem_mem (by omega))
    have z := nm_le' d[0] (by omega) (by omega)
    rw [nm_size] at z
    rw [if_pos (by omega), e0, itoa_eq d[0] (by omega) (by omega)]
    simp only [Option.bind_some]
    have := implText_l0 s d h3 h2 h4 h5 s.length 0 K (itoa d[0]) (by omega) (by omega) (by omega)
    unfold hTxt
    rw [e0]
    exact this
  · rw [if_neg h, if_neg h]
end Htx
theorem FnExactHouseText (l0_0 : List Int) (l0_1 : List Int) (m0_0 : l0_0.length ≤ maxLen) (w0_0 : ∀ x ∈ l0_0, (Lit.int .i64 x).wf = true) (m0_1 : l0_1.length ≤ maxLen) (w0_1 : ∀ x ∈ l0_1, (Lit.int .i64 x).wf = true) : ∃ k, laws_FnExactHouseText.f k l0_0 l0_1 = some true := by
  rcases sz_val l0_0 l0_1 m0_0 m0_1 with ⟨hs, hd, n, e, hn⟩ | ⟨n, e, hn⟩
  · have main : ∀ m : Nat, 2000001 ≤ m → laws_FnExactHouseText.f (m + 1) l0_0 l0_1 = some true := by
      intro m hm
      simp only [laws_FnExactHouseText.f, laws_FnExactHouseText.j0, e, Option.bind_some, if_neg hn, toHouse_val l0_0 l0_1 hs hd (m + 1) (by omega), toHouse_val l0_0 l0_1 hs hd m (by omega), houseText_spec l0_0 l0_1 (by omega) (m + 1) (by omega), houseText_impl l0_0 l0_1 (by omega) (m + 1) (by omega), eqHouse_val l0_0 l0_1 hs hd m (by omega)]
      simp
    exact ⟨2000001 + 1, main 2000001 (Nat.le_refl _)⟩
  · exact ⟨0, by simp only [laws_FnExactHouseText.f, e, Option.bind_some, if_pos hn]⟩

end Go.Proofs.YtbmdgmmegchmnaaDoor.Pure
