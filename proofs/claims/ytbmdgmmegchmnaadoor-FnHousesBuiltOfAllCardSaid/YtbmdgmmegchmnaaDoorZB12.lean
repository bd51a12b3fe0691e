/- The plain law of FnHousesBuiltOfAll: the law's function answers true for every input. No further condition. -/
import Derived.Test.YtbmdgmmegchmnaaDoorZB9
import Derived.Lib.ItoaNum
import Derived.Lib.ItoaLen
import Derived.Lib.AtoiAllCases
import Derived.Lib.Atoi
import Derived.Lib.Split
import Derived.Lib.SplitLaws
namespace Go.Proofs.YtbmdgmmegchmnaaDoor.Pure
open Go.RowKit Go.Proofs.YtbmdgmmegchmnaaDoor.B Go.Proofs.YtbmdgmmegchmnaaDoorW.PrintWords Go.Proofs.YtbmdgmmegchmnaaDoorW.PrintLast
set_option linter.unusedVariables false
set_option linter.unusedSimpArgs false
theorem wr {x : Int} (h0 : -9223372036854775808 ≤ x) (h1 : x ≤ 9223372036854775807) : wrap64 x = x := by
  unfold wrap64
  omega
theorem in_eq (a b c : Int) : spec_l1In.f a b c = some (decide (b ≤ a ∧ a ≤ c)) := by
  unfold spec_l1In.f
  by_cases h : a ≥ b
  · rw [if_pos h]
    simp [show b ≤ a from h]
  · rw [if_neg h]
    simp [show ¬ b ≤ a from h]
theorem within_eq (a b c : Int) : impl_within.f a b c = some (decide (b ≤ a ∧ a ≤ c)) := by
  unfold impl_within.f
  by_cases h : b ≤ a
  · rw [if_pos h]
    simp [h]
  · rw [if_neg h]
    simp [h]
theorem rd_nat (l : List Int) (i : Nat) (h : i < l.length) : rd l (i : Int) = l[i] := by simp [rd, List.getD, h]
def hsB (s d : List Int) : Bool := decide (2 ≤ (d.length : Int) ∧ (d.length : Int) ≤ 12) && (decide ((s.length : Int) + 1 = d.length) && ((s.all fun x => decide (1 ≤ x ∧ x ≤ 40)) && (d.all fun x => decide (0 ≤ x ∧ x ≤ 20))))
theorem hsB_facts {s d : List Int} (h : hsB s d = true) : 2 ≤ d.length ∧ d.length ≤ 12 ∧ s.length + 1 = d.length ∧ (∀ x ∈ s, 1 ≤ x ∧ x ≤ 40) ∧ (∀ x ∈ d, 0 ≤ x ∧ x ≤ 20) := by
  simp only [hsB, Bool.and_eq_true, List.all_eq_true, decide_eq_true_eq] at h
  exact ⟨by omega, by omega, by omega, h.2.2.1, h.2.2.2⟩
theorem all_l (lo hi : Int) (l : List Int) (hl : l.length ≤ 1000) (n : Nat) : ∀ (k i : Nat), i + n = l.length → n < k → spec_l1All.l0 k lo hi l (l.length : Int) (i : Int) = some ((l.drop i).all fun x => decide (lo ≤ x ∧ x ≤ hi)) := by
  induction n with
  | zero =>
    intro k i hd hk
    obtain ⟨k, rfl⟩ : ∃ m, k = m + 1 := ⟨k - 1, by omega⟩
    simp only [spec_l1All.l0]
    rw [if_neg (by omega), List.drop_of_length_le (by omega)]
    rfl
  | succ n ih =>
    intro k i hd hk
    obtain ⟨k, rfl⟩ : ∃ m, k = m + 1 := ⟨k - 1, by omega⟩
    have hix : i < l.length := by omega
    have ew : wrap64 ((i : Int) + 1) = ((i + 1 : Nat) : Int) := by rw [wr (by omega) (by omega)]; omega
    simp only [spec_l1All.l0, in_eq, Option.bind_some, ew, rd_nat l i hix]
    rw [if_pos (by omega), if_pos (by omega), if_pos (by omega), List.drop_eq_getElem_cons hix, List.all_cons]
    by_cases c : lo ≤ l[i] ∧ l[i] ≤ hi
    · rw [if_pos (decide_eq_true c), ih k (i + 1) (by omega) (by omega), decide_eq_true c, Bool.true_and]
    · rw [if_neg (by simpa using c), decide_eq_false c, Bool.false_and]
theorem all_val (lo hi : Int) (l : List Int) (hl : l.length ≤ 1000) (k : Nat) (hk : l.length < k) : spec_l1All.f k l lo hi = some (l.all fun x => decide (lo ≤ x ∧ x ≤ hi)) := by
  have := all_l lo hi l hl l.length k 0 (by omega) hk
  simpa [spec_l1All.f] using this
theorem any_not (p : Int → Bool) (l : List Int) : (l.any fun x => !p x) = !(l.all p) := by
  induction l with
  | nil => rfl
  | cons x t ih => simp only [List.any_cons, List.all_cons, ih, Bool.not_and]
theorem ldGood_eq (s d : List Int) (hm : d.length ≤ 9223372036854775807) (k : Nat) (hk : 20 ≤ k) : spec_ldGood.f k s d = some (hsB s d) := by
  simp only [spec_ldGood.f, in_eq, Option.bind_some, hsB]
  rw [wr (x := (d.length : Int) - 1) (by omega) (by omega)]
  by_cases c1 : 2 ≤ (d.length : Int) ∧ (d.length : Int) ≤ 12
  · by_cases c2 : (s.length : Int) + 1 = d.length
    · rw [all_val 1 40 s (by omega) k (by omega), all_val 0 20 d (by omega) k (by omega), if_pos (decide_eq_true c1), if_pos (by omega), decide_eq_true c1, decide_eq_true c2]
      simp only [Option.bind_some, Bool.true_and]
      cases s.all fun x => decide (1 ≤ x ∧ x ≤ 40) <;> simp
    · rw [if_pos (decide_eq_true c1), if_neg (by omega), decide_eq_false c2]
      simp
  · rw [if_neg (by simpa using c1), decide_eq_false c1]
    rfl
theorem isHouse_eq (s d : List Int) (hm : d.length ≤ 9223372036854775807) : impl_IsHouse.f s d = some (hsB s d) := by
  simp only [impl_IsHouse.f, within_eq, Option.bind_some, hsB, cf_IsHouse1.f, cf_IsHouse2.f]
  rw [wr (x := (d.length : Int) - 1) (by omega) (by omega)]
  by_cases c1 : 2 ≤ (d.length : Int) ∧ (d.length : Int) ≤ 12
  · by_cases c2 : (s.length : Int) + 1 = d.length
    · rw [if_pos (show s.length ≤ 9223372036854775807 by omega), if_pos (show d.length ≤ 9223372036854775807 by omega), if_pos (decide_eq_true c1), if_pos (by omega), decide_eq_true c1, decide_eq_true c2, any_not, any_not]
      simp only [Option.bind_some, Bool.true_and]
      cases s.all fun x => decide (1 ≤ x ∧ x ≤ 40) <;> simp
    · rw [if_pos (decide_eq_true c1), if_neg (by omega), decide_eq_false c2]
      simp
  · rw [if_neg (by simpa using c1), decide_eq_false c1]
    rfl
def isum : List Int → Int
  | [] => 0
  | x :: t => x + isum t
theorem isum_append (a b : List Int) : isum (a ++ b) = isum a + isum b := by
  induction a with
  | nil => simp [isum]
  | cons x t ih => simp only [List.cons_append, isum, ih]; omega
def Small (l : List Int) : Prop := l.length ≤ 20 ∧ ∀ x ∈ l, 0 ≤ x ∧ x ≤ 40
theorem isum_bd (l : List Int) (h : ∀ x ∈ l, 0 ≤ x ∧ x ≤ 40) : 0 ≤ isum l ∧ isum l ≤ 40 * l.length := by
  induction l with
  | nil => simp [isum]
  | cons x t ih =>
    have h1 := h x (by simp)
    have h2 := ih (fun y hy => h y (by simp [hy]))
    simp only [isum, List.length_cons]
    omega
theorem Small.bd {l : List Int} (h : Small l) : 0 ≤ isum l ∧ isum l ≤ 800 := by
  have := isum_bd l h.2
  have := h.1
  omega
theorem Small.take {l : List Int} (h : Small l) (n : Nat) : Small (l.take n) := ⟨Nat.le_trans (List.length_take_le' _ _) h.1, fun x hx => h.2 x (List.mem_of_mem_take hx)⟩
theorem Small.drop {l : List Int} (h : Small l) (n : Nat) : Small (l.drop n) := ⟨by rw [List.length_drop]; have := h.1; omega, fun x hx => h.2 x (List.mem_of_mem_drop hx)⟩
theorem small_s {s d : List Int} (h : hsB s d = true) : Small s := by
  have f := hsB_facts h
  exact ⟨by omega, fun x hx => by have := f.2.2.2.1 x hx; omega⟩
theorem small_d {s d : List Int} (h : hsB s d = true) : Small d := by
  have f := hsB_facts h
  exact ⟨by omega, fun x hx => by have := f.2.2.2.2 x hx; omega⟩
section Num
open Go.Lib
theorem u8_dig (d : Nat) (h : d < 10) : (UInt8.ofNat (48 + d)).toNat = 48 + d := by
  rw [UInt8.toNat_ofNat']; exact Nat.mod_eq_of_lt (by omega)
theorem dd_step (n : Nat) (h : ¬ n < 10) : decDigits n = decDigits (n / 10) ++ [UInt8.ofNat (48 + n % 10)] := by rw [decDigits, dif_neg h]
theorem dd_len (k : Nat) : ∀ n, n < 10 ^ (k + 1) → (decDigits n).length ≤ k + 1 := by
  induction k with
  | zero => intro n h; rw [decDigits_one (by simpa using h)]; simp
  | succ k ih =>
    intro n h
    by_cases c : n < 10
    · rw [decDigits_one c]; simp
    · rw [dd_step n c, List.length_append]
      have := ih (n / 10) (by rw [Nat.pow_succ] at h; omega)
      simpa using this
theorem dd_pos (n : Nat) : 1 ≤ (decDigits n).length := by
  by_cases c : n < 10
  · rw [decDigits_one c]; simp
  · rw [dd_step n c]; simp
theorem dd_ne (n : Nat) : decDigits n ≠ [] := by intro h; have := dd_pos n; rw [h] at this; simp at this
theorem dd_digit (n : Nat) : ∀ c ∈ decDigits n, 48 ≤ c.toNat ∧ c.toNat ≤ 57 := by
  induction n using Nat.strongRecOn with
  | _ n ih =>
    intro c hc
    by_cases h : n < 10
    · rw [decDigits_one h] at hc
      obtain rfl := List.mem_singleton.1 hc
      rw [u8_dig n h]; omega
    · rw [dd_step n h, List.mem_append] at hc
      rcases hc with hc | hc
      · exact ih (n / 10) (by omega) c hc
      · obtain rfl := List.mem_singleton.1 hc
        rw [u8_dig (n % 10) (by omega)]; omega
theorem hd_app {l r : List UInt8} (h : l ≠ []) : (l ++ r).head? = l.head? := by
  cases l with
  | nil => exact absurd rfl h
  | cons _ _ => rfl
theorem dd_head (n : Nat) (h1 : 1 ≤ n) : (decDigits n).head? ≠ some 48 := by
  induction n using Nat.strongRecOn with
  | _ n ih =>
    by_cases h : n < 10
    · rw [decDigits_one h]
      intro e
      have e' : UInt8.ofNat (48 + n) = 48 := by simpa using e
      have := congrArg UInt8.toNat e'
      rw [u8_dig n h] at this
      have z : (48 : UInt8).toNat = 48 := rfl
      omega
    · rw [dd_step n h, hd_app (dd_ne _)]
      exact ih (n / 10) (by omega) (by omega)
theorem df_app (l : List UInt8) (c : UInt8) : ∀ acc, decFrom acc (l ++ [c]) = (decFrom acc l).bind fun a => (digitVal c).map fun d => a * 10 + d := by
  induction l with
  | nil => intro acc; simp only [List.nil_append, decFrom, Option.bind_some]; cases digitVal c <;> rfl
  | cons b r ih =>
    intro acc
    simp only [List.cons_append, decFrom]
    cases digitVal b with
    | none => rfl
    | some d => exact ih _
theorem dv_dig (d : Nat) (h : d < 10) : digitVal (UInt8.ofNat (48 + d)) = some d := by
  unfold digitVal; rw [u8_dig d h, if_pos (by omega)]; congr 1; omega
theorem df_dec (n : Nat) : decFrom 0 (decDigits n) = some n := by
  induction n using Nat.strongRecOn with
  | _ n ih =>
    by_cases h : n < 10
    · rw [decDigits_one h]; simp only [decFrom, dv_dig n h]; congr 1; omega
    · rw [dd_step n h, df_app, ih (n / 10) (by omega), Option.bind_some, dv_dig _ (by omega), Option.map_some]; congr 1; omega
theorem dv_back {c : UInt8} {d : Nat} (h : digitVal c = some d) : d < 10 ∧ c = UInt8.ofNat (48 + d) := by
  obtain ⟨h1, h2, h3⟩ := digitVal_eq h
  refine ⟨by omega, ?_⟩
  apply UInt8.toNat_inj.1
  rw [u8_dig d (by omega)]; omega
theorem df_canon : ∀ (k : Nat) (l : List UInt8) (m : Nat), l.length = k → l ≠ [] → (l.head? = some 48 → l.length = 1) → decFrom 0 l = some m → decDigits m = l ∧ (l.head? ≠ some 48 → 1 ≤ m)
  | 0, l, m, hk, hne, _, _ => absurd (List.eq_nil_of_length_eq_zero hk) hne
  | k + 1, l, m, hk, hne, hz, hm => by
    obtain ⟨r, c, rfl⟩ : ∃ r c, l = r ++ [c] := ⟨l.dropLast, l.getLast hne, (List.dropLast_concat_getLast hne).symm⟩
    rw [df_app] at hm
    cases hr : decFrom 0 r with
    | none => rw [hr] at hm; cases hm
    | some a =>
      rw [hr, Option.bind_some] at hm
      cases hd : digitVal c with
      | none => rw [hd] at hm; cases hm
      | some d =>
        rw [hd, Option.map_some] at hm
        obtain rfl := Option.some.inj hm
        obtain ⟨d10, rfl⟩ := dv_back hd
        by_cases e : r = []
        · subst e
          simp only [decFrom] at hr
          obtain rfl := Option.some.inj hr
          rw [show 0 * 10 + d = d by omega, decDigits_one d10]
          refine ⟨rfl, fun h => ?_⟩
          rcases Nat.eq_zero_or_pos d with z | z
          · subst z; exact absurd rfl h
          · exact z
        · have hh : (r ++ [UInt8.ofNat (48 + d)]).head? = r.head? := hd_app e
          have hr1 : 1 ≤ r.length := by cases r with | nil => exact absurd rfl e | cons _ _ => simp
          have nz : r.head? ≠ some 48 := fun h => by
            have := hz (hh.trans h)
            simp only [List.length_append, List.length_cons, List.length_nil] at this
            omega
          obtain ⟨i1, i2⟩ := df_canon k r a (by simpa using hk) e (fun h => absurd h nz) hr
          have := i2 nz
          refine ⟨?_, fun _ => by omega⟩
          rw [dd_step (a * 10 + d) (by omega), show (a * 10 + d) / 10 = a by omega, show (a * 10 + d) % 10 = d by omega, i1]
theorem pu_of_df : ∀ (l : List UInt8) (acc m : Nat), decFrom acc l = some m → l.length ≤ 8 → acc < 1000000000 * 10 ^ (8 - l.length) → parseUint10 acc l = .ok m
  | [], acc, m, h, _, _ => by simp only [decFrom] at h; obtain rfl := Option.some.inj h; rfl
  | c :: r, acc, m, h, hl, ha => by
    simp only [decFrom] at h
    cases hd : digitVal c with
    | none => rw [hd] at h; cases h
    | some d =>
      rw [hd] at h
      obtain ⟨h1, h2, h3⟩ := digitVal_eq hd
      simp only [List.length_cons] at hl ha
      have hp : 10 ^ (8 - r.length) = 10 * 10 ^ (8 - (r.length + 1)) := by
        rw [show 8 - r.length = (8 - (r.length + 1)) + 1 by omega, Nat.pow_succ]; omega
      have hb : 10 ^ (8 - (r.length + 1)) ≤ 10 ^ 7 := Nat.pow_le_pow_right (by decide) (by omega)
      have e7 : (10 : Nat) ^ 7 = 10000000 := by decide
      simp only [parseUint10]
      rw [if_pos ⟨h1, h2⟩, if_neg (by omega), if_neg (by omega), ← h3]
      exact pu_of_df r (acc * 10 + d) m h (by omega) (by rw [hp]; omega)
theorem atoi_dec (n : Nat) (h : n ≤ 999999) : atoiAll (decDigits n) = .ok (n : Int) := by
  have hl := dd_len 5 n (by omega)
  have hp : parseMag (decDigits n) = .ok n := by
    unfold parseMag
    rw [if_neg (dd_ne n)]
    exact pu_of_df _ _ _ (df_dec n) (by omega) (Nat.mul_pos (by decide) (Nat.pow_pos (by decide)))
  cases e : decDigits n with
  | nil => exact absurd e (dd_ne n)
  | cons c r =>
    have hc := dd_digit n c (by rw [e]; simp)
    rw [atoiAll_plain c r (by omega) (by omega), ← e, hp]
    simp only [signless]
    rw [if_neg (by omega)]
def numOf (l : List UInt8) : Int :=
  match atoiAll l with
  | .ok v => if v < 0 then -1 else if 999999 < v then -1 else if itoa v = l then v else -1
  | _ => -1
theorem itoa_dec (n : Nat) : itoa (n : Int) = decDigits n := by
  unfold itoa; rw [if_neg (by omega)]; rfl
theorem numOf_dec (n : Nat) (h : n ≤ 999999) : numOf (decDigits n) = n := by
  unfold numOf
  rw [atoi_dec n h]
  simp only
  rw [if_neg (by omega), if_neg (by omega), if_pos (itoa_dec n)]
theorem numOf_cases (l : List UInt8) : numOf l = -1 ∨ ∃ n : Nat, n ≤ 999999 ∧ numOf l = n ∧ l = decDigits n := by
  unfold numOf
  cases atoiAll l with
  | ok v =>
    simp only
    by_cases c1 : v < 0
    · rw [if_pos c1]; exact .inl rfl
    · rw [if_neg c1]
      by_cases c2 : 999999 < v
      · rw [if_pos c2]; exact .inl rfl
      · rw [if_neg c2]
        by_cases c3 : itoa v = l
        · rw [if_pos c3]
          obtain ⟨n, rfl⟩ : ∃ n : Nat, v = n := ⟨v.toNat, by omega⟩
          exact .inr ⟨n, by omega, rfl, by rw [← c3, itoa_dec]⟩
        · rw [if_neg c3]; exact .inl rfl
  | _ => exact .inl rfl
def readOf (l : List UInt8) : Int :=
  if 1 ≤ l.length ∧ l.length ≤ 6 ∧ (l.head? = some 48 → l.length = 1) then (match decFrom 0 l with | some m => (m : Int) | none => -1) else -1
theorem readOf_eq (l : List UInt8) : readOf l = numOf l := by
  have key : ∀ n : Nat, n ≤ 999999 → readOf (decDigits n) = n := fun n h => by
    unfold readOf
    have h1 := dd_pos n
    have h6 := dd_len 5 n (by omega)
    have hz : (decDigits n).head? = some 48 → (decDigits n).length = 1 := fun hz => by
      rcases Nat.eq_zero_or_pos n with z | z
      · subst z; rw [decDigits_one (by omega)]; rfl
      · exact absurd hz (dd_head n z)
    rw [if_pos ⟨h1, h6, hz⟩, df_dec n]
  have back : readOf l = -1 ∨ ∃ n : Nat, n ≤ 999999 ∧ l = decDigits n := by
    unfold readOf
    by_cases c : 1 ≤ l.length ∧ l.length ≤ 6 ∧ (l.head? = some 48 → l.length = 1)
    · rw [if_pos c]
      cases hm : decFrom 0 l with
      | none => exact .inl rfl
      | some m =>
        have hlt := decFrom_lt l 0 m hm
        have hp : 10 ^ l.length ≤ 10 ^ 6 := Nat.pow_le_pow_right (by decide) c.2.1
        have e6 : (10 : Nat) ^ 6 = 1000000 := by decide
        refine .inr ⟨m, by omega, ((df_canon l.length l m rfl (fun e => by rw [e] at c; simp at c) c.2.2 hm).1).symm⟩
    · rw [if_neg c]; exact .inl rfl
  rcases numOf_cases l with h | ⟨n, hn, h, rfl⟩
  · rcases back with h' | ⟨n, hn, rfl⟩
    · rw [h, h']
    · rw [numOf_dec n hn, key n hn]
  · rw [h, key n hn]
theorem numOf_none {l : List UInt8} {c : UInt8} (h : c ∈ l) (hc : c.toNat < 48 ∨ 57 < c.toNat) : numOf l = -1 := by
  rcases numOf_cases l with h' | ⟨n, hn, _, rfl⟩
  · exact h'
  · have := dd_digit n c h; omega
theorem numOf_nil : numOf [] = -1 := rfl
theorem numOf_len {l : List UInt8} {k : Nat} (hk : numOf l < 10 ^ (k + 1)) (h0 : 0 ≤ numOf l) : 1 ≤ l.length ∧ l.length ≤ k + 1 := by
  rcases numOf_cases l with h' | ⟨n, hn, e, rfl⟩
  · omega
  · exact ⟨dd_pos n, dd_len k n (by rw [e] at hk; exact_mod_cast hk)⟩
end Num
section Spl
open Go.Lib
def spl (b : UInt8) : List UInt8 → List (List UInt8)
  | [] => [[]]
  | c :: r => if c = b then [] :: spl b r else (match spl b r with | h :: t => (c :: h) :: t | [] => [[c]])
theorem spl_ne (b : UInt8) (l : List UInt8) : spl b l ≠ [] := by
  cases l with
  | nil => simp [spl]
  | cons c r => unfold spl; split <;> (try simp); split <;> simp
theorem spl_hit (b : UInt8) (y : List UInt8) : ∀ x : List UInt8, b ∉ x → spl b (x ++ b :: y) = x :: spl b y
  | [], _ => by simp [spl]
  | c :: r, h => by
    have hc : c ≠ b := fun e => h (by simp [e])
    rw [List.cons_append, spl, if_neg hc, spl_hit b y r (fun e => h (by simp [e]))]
theorem spl_miss (b : UInt8) : ∀ x : List UInt8, b ∉ x → spl b x = [x]
  | [], _ => rfl
  | c :: r, h => by
    have hc : c ≠ b := fun e => h (by simp [e])
    rw [spl, if_neg hc, spl_miss b r (fun e => h (by simp [e]))]
theorem mem_parts (b : UInt8) : ∀ l : List UInt8, b ∈ l → ∃ x y, l = x ++ b :: y ∧ b ∉ x
  | [], h => by cases h
  | c :: r, h => by
    by_cases e : c = b
    · exact ⟨[], r, by simp [e], by simp⟩
    · obtain ⟨x, y, rfl, hx⟩ := mem_parts b r (by simpa [Ne.symm e] using h)
      exact ⟨c :: x, y, rfl, by simp [hx, Ne.symm e]⟩
theorem index_hit (b : UInt8) (y : List UInt8) : ∀ x : List UInt8, b ∉ x → index (x ++ b :: y) [b] = (x.length : Int)
  | [], _ => by rw [List.nil_append, index]; simp [List.isPrefixOf]
  | c :: r, h => by
    have hc : c ≠ b := fun e => h (by simp [e])
    rw [List.cons_append, index, index_hit b y r (fun e => h (by simp [e]))]
    have hp : ([b] : List UInt8).isPrefixOf (c :: (r ++ b :: y)) = false := by simp [List.isPrefixOf, Ne.symm hc]
    rw [hp]
    have : ((r.length : Int) == -1) = false := by rw [beq_eq_false_iff_ne]; omega
    simp [this]
theorem index_miss (b : UInt8) : ∀ x : List UInt8, b ∉ x → index x [b] = -1
  | [], _ => by simp [index]
  | c :: r, h => by
    have hc : c ≠ b := fun e => h (by simp [e])
    rw [index, index_miss b r (fun e => h (by simp [e]))]
    have hp : ([b] : List UInt8).isPrefixOf (c :: r) = false := by simp [List.isPrefixOf, Ne.symm hc]
    rw [hp]; simp
theorem cut_hit (b : UInt8) (x y : List UInt8) (h : b ∉ x) : cut (x ++ b :: y) [b] = (x, y, true) := by
  unfold cut
  rw [index_hit b y x h, if_pos (by omega)]
  simp
theorem cut_miss (b : UInt8) (x : List UInt8) (h : b ∉ x) : cut x [b] = (x, [], false) := by
  unfold cut
  rw [index_miss b x h, if_neg (by omega)]
theorem splitK_eq (b : UInt8) : ∀ (k : Nat) (l : List UInt8), l.count b ≤ k → splitK [b] 0 k l = spl b l
  | 0, l, h => by
    have : b ∉ l := fun hm => by have := List.count_pos_iff.2 hm; omega
    rw [spl_miss b l this]; rfl
  | k + 1, l, h => by
    by_cases hm : b ∈ l
    · obtain ⟨x, y, rfl, hx⟩ := mem_parts b l hm
      have e := index_hit b y x hx
      rw [splitK, e, if_neg (by simp), spl_hit b y x hx]
      have ht : (x ++ b :: y).take (((x.length : Int)).toNat + 0) = x := by simp
      have hd : (x ++ b :: y).drop (((x.length : Int)).toNat + [b].length) = y := by simp
      rw [ht, hd, splitK_eq b k y (by rw [List.count_append, List.count_cons_self] at h; omega)]
    · rw [splitK, index_miss b l hm, if_pos (by rfl), spl_miss b l hm]
end Spl
section Prs
open Go.Lib
theorem bt_get (s : ByteArray) (i : Nat) (h : i < s.size) : ∃ c, s.data.toList[i]? = some c ∧ bt s (i : Int) = (c.toNat : Int) := by
  have h' : i < s.data.toList.length := by rw [Array.length_toList]; exact h
  refine ⟨s.data.toList[i], List.getElem?_eq_getElem h', ?_⟩
  unfold bt
  have e : ((i : Int)).toNat = i := Int.toNat_natCast i
  rw [dif_pos (by rw [e]; exact h)]
  simp only [e]
  rw [Array.getElem_toList]
  rfl
theorem drop_get {l : List UInt8} {i : Nat} {c : UInt8} (h : l[i]? = some c) : l.drop i = c :: l.drop (i + 1) := by
  obtain ⟨hi, rfl⟩ := List.getElem?_eq_some_iff.1 h
  exact List.drop_eq_getElem_cons hi
theorem dig_step (n c : Nat) (hn : n < 1000000) (h1 : 48 ≤ c) (h2 : c ≤ 57) : wrap64 ((wrap64 (10 * (n : Int))) + (((c : Int) - 48) % 256)) = ((n * 10 + (c - 48) : Nat) : Int) := by unfold wrap64; omega
theorem w_succ (i : Nat) (h : i < 4611686018427387904) : wrap64 ((i : Int) + 1) = ((i + 1 : Nat) : Int) := by unfold wrap64; omega
theorem l1Read_l0 (s : ByteArray) (hs : s.size ≤ 6) : ∀ (d i n K : Nat), i + d = s.size → d < K → n < 10 ^ i →
    spec_l1Read.l0 K s (n : Int) (i : Int) = some (match decFrom n (s.data.toList.drop i) with | some m => (m : Int) | none => -1)
  | 0, i, n, K, hi, hK, _ => by
    obtain ⟨K, rfl⟩ : ∃ m, K = m + 1 := ⟨K - 1, by omega⟩
    simp only [spec_l1Read.l0]
    rw [if_neg (by omega), List.drop_of_length_le (by rw [Array.length_toList]; have : s.data.size = s.size := rfl
                                                      omega)]
    rfl
  | d + 1, i, n, K, hi, hK, hn => by
    obtain ⟨K, rfl⟩ : ∃ m, K = m + 1 := ⟨K - 1, by omega⟩
    obtain ⟨c, hc, hb⟩ := bt_get s i (by omega)
    have hlt : c.toNat < 256 := c.toNat_lt
    have hp : 10 ^ i ≤ 10 ^ 6 := Nat.pow_le_pow_right (by decide) (by omega)
    have e6 : (10 : Nat) ^ 6 = 1000000 := by decide
    simp only [spec_l1Read.l0]
    rw [if_pos (by omega), if_pos (by omega), hb, drop_get hc]
    simp only [decFrom, digitVal]
    by_cases h1 : c.toNat < 48
    · rw [if_pos (by omega), if_neg (by omega)]
    · rw [if_neg (by omega)]
      by_cases h2 : 57 < c.toNat
      · rw [if_pos (by omega), if_neg (by omega)]
      · rw [if_neg (by omega), if_pos (by omega)]
        rw [dig_step n c.toNat (by omega) (by omega) (by omega), w_succ i (by omega), l1Read_l0 s hs d (i + 1) (n * 10 + (c.toNat - 48)) K (by omega) (by omega) (by rw [Nat.pow_succ]; omega)]
theorem l1Read_eq (s : ByteArray) (K : Nat) (hK : 10 ≤ K) : spec_l1Read.f K s = some (numOf s.data.toList) := by
  rw [← readOf_eq]
  obtain ⟨K, rfl⟩ : ∃ m, K = m + 1 := ⟨K - 1, by omega⟩
  have hz : s.data.toList.length = s.size := Array.length_toList
  unfold spec_l1Read.f readOf
  rw [in_eq]
  simp only [Option.bind_some]
  by_cases h : 1 ≤ s.size ∧ s.size ≤ 6
  · rw [if_pos (by rw [decide_eq_true_eq]; omega), if_pos (by omega)]
    obtain ⟨c, hc, hb⟩ := bt_get s 0 (by omega)
    have hb' : bt s 0 = (c.toNat : Int) := hb
    have hh : s.data.toList.head? = some c := by rw [List.head?_eq_getElem?]; exact hc
    have l0 := l1Read_l0 s h.2 s.size 0 0 K (by omega) (by omega) (by decide)
    simp only [List.drop_zero, Int.natCast_zero] at l0
    have l0' : spec_l1Read.l0 K s 0 0 = some (match decFrom 0 s.data.toList with | some m => (m : Int) | none => -1) := l0
    rw [hb', hh, hz]
    by_cases h0 : c = 48
    · subst h0
      rw [if_pos (by rfl)]
      simp only [spec_l1Read.j0]
      by_cases h1 : s.size = 1
      · rw [if_neg (by simp; omega), l0', if_pos ⟨h.1, h.2, fun _ => h1⟩]
      · rw [if_pos (by simp; omega), if_neg (fun e => h1 (e.2.2 (by simp)))]
    · have hne : c.toNat ≠ 48 := fun e => h0 (UInt8.toNat_inj.1 e)
      rw [if_neg (by omega)]
      simp only [spec_l1Read.j0]
      rw [if_neg (by simp), l0', if_pos ⟨h.1, h.2, fun e => absurd (Option.some.inj e) h0⟩]
  · rw [if_neg (by rw [decide_eq_true_eq]; omega)]
    simp only [spec_l1Read.j0, if_true]
    rw [if_neg (by rw [hz]; omega)]
def pre (x : List UInt8) : List (List UInt8) → List (List UInt8)
  | h :: t => (x ++ h) :: t
  | [] => [x]
theorem pre_nil {l : List (List UInt8)} (h : l ≠ []) : pre [] l = l := by
  cases l with
  | nil => exact absurd rfl h
  | cons _ _ => rfl
theorem spl_ne_cons (b c : UInt8) (r : List UInt8) (h : c ≠ b) (x : List UInt8) : pre x (spl b (c :: r)) = pre (x ++ [c]) (spl b r) := by
  rw [spl, if_neg h]
  cases e : spl b r with
  | nil => exact absurd e (spl_ne b r)
  | cons h t => simp [pre]
theorem extract_toList (s : ByteArray) (a b : Nat) : (s.extract a b).data.toList = (s.data.toList.drop a).take (b - a) := by
  rw [extract_data]
theorem l1Split_l0 (s : ByteArray) (hs : s.size ≤ 1048576) (b : UInt8) : ∀ (d i f K : Nat) (out : List ByteArray), i + d = s.size → f ≤ i → out.length ≤ i → d < K →
    ∃ r, spec_l1Split.l0 K s (b.toNat : Int) out (f : Int) (i : Int) = some r ∧ r.map (·.data.toList) = out.map (·.data.toList) ++ pre ((s.data.toList.drop f).take (i - f)) (spl b (s.data.toList.drop i))
  | 0, i, f, K, out, hi, hf, ho, hK => by
    obtain ⟨K, rfl⟩ : ∃ m, K = m + 1 := ⟨K - 1, by omega⟩
    have hz : s.data.toList.length = s.size := Array.length_toList
    simp only [spec_l1Split.l0]
    refine ⟨out ++ [s.extract f s.size], ?_, ?_⟩
    · rw [if_neg (by omega), if_pos (by omega), if_pos (by omega), if_pos (by omega), Int.toNat_natCast]
    · rw [List.drop_of_length_le (l := s.data.toList) (i := i) (by omega)]
      have : i = s.size := by omega
      simp [spl, pre, extract_toList, this]
  | d + 1, i, f, K, out, hi, hf, ho, hK => by
    obtain ⟨K, rfl⟩ : ∃ m, K = m + 1 := ⟨K - 1, by omega⟩
    obtain ⟨c, hc, hb⟩ := bt_get s i (by omega)
    have e2 := w_succ i (by omega)
    simp only [spec_l1Split.l0]
    rw [if_pos (by omega), if_pos (by omega), hb, drop_get hc]
    by_cases h : c = b
    · subst h
      obtain ⟨r, hr, hm⟩ := l1Split_l0 s hs c d (i + 1) (i + 1) K (out ++ [s.extract f i]) (by omega) (Nat.le_refl _) (by simp; omega) (by omega)
      refine ⟨r, ?_, ?_⟩
      · rw [if_pos rfl, if_pos (by omega), if_pos (by omega), if_pos (by omega), if_pos (by omega), e2, Int.toNat_natCast, Int.toNat_natCast]
        exact hr
      · rw [hm, Nat.sub_self, List.take_zero, pre_nil (spl_ne _ _), spl, if_pos rfl]
        simp [pre, extract_toList]
    · have hne : ¬ (c.toNat : Int) = (b.toNat : Int) := fun e => h (UInt8.toNat_inj.1 (by omega))
      obtain ⟨r, hr, hm⟩ := l1Split_l0 s hs b d (i + 1) f K out (by omega) (by omega) (by omega) (by omega)
      refine ⟨r, ?_, ?_⟩
      · rw [if_neg hne, e2]
        exact hr
      · rw [hm, spl_ne_cons b c _ h]
        congr 2
        rw [show i + 1 - f = (i - f) + 1 by omega, List.take_add_one, List.getElem?_drop, show f + (i - f) = i by omega, hc]
        rfl
theorem l1Split_eq (s : ByteArray) (hs : s.size ≤ 1048576) (b : UInt8) (K : Nat) (hK : 1048600 ≤ K) : ∃ r, spec_l1Split.f K s (b.toNat : Int) = some r ∧ r.map (·.data.toList) = spl b s.data.toList := by
  obtain ⟨r, hr, hm⟩ := l1Split_l0 s hs b s.size 0 0 K [] (by omega) (by omega) (by simp) (by omega)
  refine ⟨r, hr, ?_⟩
  rw [hm]
  simp [pre_nil (spl_ne _ _)]
end Prs
section Prs2
open Go.Lib
theorem num_eq (s : ByteArray) (h : s.size ≤ 281474976710656) : impl_num.f s = some (numOf s.data.toList) := by
  unfold impl_num.f
  rw [if_pos h]
  rfl
theorem Cut_eq (s : ByteArray) (b : UInt8) (h : s.size ≤ 1048576) : strings_Cut.f s (⟨#[b]⟩ : ByteArray) = some ((⟨(cut s.data.toList [b]).1.toArray⟩ : ByteArray), (⟨(cut s.data.toList [b]).2.1.toArray⟩ : ByteArray), (cut s.data.toList [b]).2.2) := by
  unfold strings_Cut.f
  rw [if_pos (by omega)]
theorem cut_len1 (l : List UInt8) (b : UInt8) : ((cut l [b]).1).length ≤ l.length := by
  unfold cut; split
  · exact List.length_take_le' _ _
  · exact Nat.le_refl _
theorem cut_len2 (l : List UInt8) (b : UInt8) : ((cut l [b]).2.1).length ≤ l.length := by
  unfold cut; split
  · simp only [List.length_drop]; omega
  · simp
theorem size_mk (l : List UInt8) : (⟨l.toArray⟩ : ByteArray).size = l.length := by simp [ByteArray.size]
theorem two_of {r : List ByteArray} {x y : List UInt8} (h : r.map (·.data.toList) = [x, y]) : ∃ a b, r = [a, b] ∧ a.data.toList = x ∧ b.data.toList = y := by
  match r, h with
  | [a, b], h => simp at h; exact ⟨a, b, rfl, h.1, h.2⟩
theorem spl_two (b : UInt8) (l : List UInt8) : (∃ x y, l = x ++ b :: y ∧ b ∉ x ∧ b ∉ y ∧ spl b l = [x, y] ∧ cut l [b] = (x, y, true)) ∨ ((spl b l).length ≠ 2 ∧ (b ∈ (cut l [b]).2.1 ∨ (cut l [b]).2.1 = [])) := by
  by_cases h : b ∈ l
  · obtain ⟨x, y, rfl, hx⟩ := mem_parts b l h
    rw [cut_hit b x y hx, spl_hit b y x hx]
    by_cases hy : b ∈ y
    · refine .inr ⟨?_, .inl hy⟩
      obtain ⟨x', y', rfl, hx'⟩ := mem_parts b y hy
      rw [spl_hit b y' x' hx']
      have := spl_ne b y'
      cases e : spl b y' with
      | nil => exact absurd e this
      | cons _ _ => simp
    · exact .inl ⟨x, y, rfl, hx, hy, by rw [spl_miss b y hy], rfl⟩
  · rw [cut_miss b l h, spl_miss b l h]
    exact .inr ⟨by simp, .inr rfl⟩
theorem num_many (b : UInt8) (hb : b.toNat < 48 ∨ 57 < b.toNat) {l : List UInt8} (h : b ∈ l ∨ l = []) : numOf l = -1 := by
  rcases h with h | rfl
  · exact numOf_none h hb
  · exact numOf_nil
end Prs2
section Txt
open Go.Lib
def nm (n : Int) : ByteArray := ⟨(itoa n).toArray⟩
theorem nm_size (n : Int) : (nm n).size = (itoa n).length := by simp [nm, ByteArray.size]
theorem nm_le (n : Int) (h0 : -9223372036854775808 ≤ n) (h1 : n ≤ 9223372036854775807) : (nm n).size ≤ 21 := by rw [nm_size]; exact itoa_length_le n h0 h1
theorem one_eq (d : Int) (h0 : 0 ≤ d) (h : d < 10) : strOfNums [(wrap64 (48 + d)) % 256] = ⟨#[UInt8.ofNat (48 + d.toNat)]⟩ := by
  have e : (wrap64 (48 + d)) % 256 = 48 + d := by unfold wrap64; omega
  rw [e]
  simp only [strOfNums, List.map_cons, List.map_nil]
  rw [show (48 + d).toNat = 48 + d.toNat by omega]
theorem l1Num_eq (k : Nat) : ∀ (n : Nat), n < 10 ^ (k + 1) → k ≤ 18 → ∀ K, k < K → spec_l1Num.f K (n : Int) = some (nm n) := by
  induction k with
  | zero =>
    intro n h _ K hK
    obtain ⟨K, rfl⟩ : ∃ m, K = m + 1 := ⟨K - 1, by omega⟩
    have h' : n < 10 := by simpa using h
    simp only [spec_l1Num.f]
    rw [if_pos (by omega), one_eq n (by omega) (by omega)]
    unfold nm
    rw [itoa_dec, decDigits_one h', Int.toNat_natCast]
  | succ k ih =>
    intro n h hk K hK
    obtain ⟨K, rfl⟩ : ∃ m, K = m + 1 := ⟨K - 1, by omega⟩
    simp only [spec_l1Num.f]
    by_cases c : n < 10
    · rw [if_pos (by omega), one_eq n (by omega) (by omega)]
      unfold nm
      rw [itoa_dec, decDigits_one c, Int.toNat_natCast]
    · have hn : n / 10 < 10 ^ (k + 1) := by rw [Nat.pow_succ] at h; omega
      have hp : 10 ^ (k + 1) ≤ 10 ^ 18 := Nat.pow_le_pow_right (by decide) (by omega)
      have e18 : (10 : Nat) ^ 18 = 1000000000000000000 := by decide
      have e1 : Int.tdiv (n : Int) 10 = ((n / 10 : Nat) : Int) := (Int.ofNat_tdiv n 10).symm
      have e2 : Int.tmod (n : Int) 10 = ((n % 10 : Nat) : Int) := (Int.ofNat_tmod n 10).symm
      have e3 : wrap64 (((n / 10 : Nat) : Int)) = ((n / 10 : Nat) : Int) := by unfold wrap64; omega
      rw [if_neg (by omega), e1, e3, ih (n / 10) hn (by omega) K (by omega), e2]
      simp only [Option.bind_some]
      rw [one_eq _ (by omega) (by omega)]
      have hl := dd_len k (n / 10) hn
      have hs : (nm ((n / 10 : Nat) : Int)).size = (decDigits (n / 10)).length := by rw [nm_size, itoa_dec]
      rw [if_pos (by rw [hs]; simp [ByteArray.size]; omega)]
      congr 1
      unfold nm
      rw [itoa_dec n, itoa_dec (n / 10), dd_step n c, Int.toNat_natCast]
      apply ByteArray.ext
      simp
theorem l1Num_int (a : Int) (h0 : 0 ≤ a) (h1 : a ≤ 1000000) (K : Nat) (hK : 20 ≤ K) : spec_l1Num.f K a = some (nm a) := by
  obtain ⟨n, rfl⟩ : ∃ n : Nat, a = n := ⟨a.toNat, by omega⟩
  exact l1Num_eq 18 n (by have e : (10 : Nat) ^ (18 + 1) = 10000000000000000000 := by decide
                          omega) (by omega) K (by omega)
theorem itoa_eq (a : Int) (h0 : 0 ≤ a) (h1 : a ≤ 1000000) : strconv_Itoa_108.f a = some (nm a) := by
  unfold strconv_Itoa_108.f
  rw [if_pos (by omega)]; rfl
theorem nm_le' (a : Int) (h0 : 0 ≤ a) (h1 : a ≤ 1000000) : (nm a).size ≤ 21 := nm_le a (by omega) (by omega)
end Txt
section Htx
open Go.Lib
def htl : List Int → List Int → List UInt8
  | a :: s, b :: d => 94 :: (itoa a ++ (58 :: (itoa b ++ htl s d)))
  | _, _ => []
def hTxt (s d : List Int) : ByteArray := ⟨(itoa (rd d 0) ++ htl s (d.drop 1)).toArray⟩
theorem ba_app (a b : List UInt8) : (⟨a.toArray⟩ : ByteArray) ++ ⟨b.toArray⟩ = ⟨(a ++ b).toArray⟩ := by
  apply ByteArray.ext; simp
theorem htx_step (x : List UInt8) (a b : Int) : (⟨x.toArray⟩ : ByteArray) ++ ((((⟨#[94]⟩ : ByteArray) ++ nm a) ++ (⟨#[58]⟩ : ByteArray)) ++ nm b) = ⟨(x ++ 94 :: (itoa a ++ (58 :: itoa b))).toArray⟩ := by
  have e1 : (⟨#[94]⟩ : ByteArray) = ⟨[94].toArray⟩ := rfl
  have e2 : (⟨#[58]⟩ : ByteArray) = ⟨[58].toArray⟩ := rfl
  unfold nm
  rw [e1, e2, ba_app, ba_app, ba_app, ba_app]
  simp
theorem specText_l0 (s d : List Int) (hl : s.length + 1 = d.length) (hd : d.length ≤ 12) (hs : ∀ x ∈ s, 1 ≤ x ∧ x ≤ 40) (hdd : ∀ x ∈ d, 0 ≤ x ∧ x ≤ 20) :
    ∀ (n i K : Nat) (x : List UInt8), i + n = s.length → n + 21 ≤ K → x.length ≤ 21 + 44 * i → spec_ldText.l0 K ⟨x.toArray⟩ s (s.length : Int) (i : Int) s d = some ⟨(x ++ htl (s.drop i) (d.drop (i + 1))).toArray⟩
  | 0, i, K, x, hi, hK, hx => by
    obtain ⟨K, rfl⟩ : ∃ m, K = m + 1 := ⟨K - 1, by omega⟩
    simp only [spec_ldText.l0]
    rw [if_neg (by omega), List.drop_of_length_le (by omega)]
    simp [htl]
  | n + 1, i, K, x, hi, hK, hx => by
    obtain ⟨K, rfl⟩ : ∃ m, K = m + 1 := ⟨K - 1, by omega⟩
    have h1 : i < s.length := by omega
    have h2 : i + 1 < d.length := by omega
    have ew : wrap64 ((i : Int) + 1) = ((i + 1 : Nat) : Int) := by rw [wr (by omega) (by omega)]; omega
    have b1 := hs s[i] (List.getElem_mem h1)
    have b2 := hdd d[i + 1] (List.getElem_mem h2)
    have z1 := nm_le' s[i] (by omega) (by omega)
    have z2 := nm_le' d[i + 1] (by omega) (by omega)
    have o1 : (⟨#[94]⟩ : ByteArray).size = 1 := rfl
    have o2 : (⟨#[58]⟩ : ByteArray).size = 1 := rfl
    have o3 : (⟨x.toArray⟩ : ByteArray).size = x.length := by simp [ByteArray.size]
    simp only [spec_ldText.l0, ew, rd_nat s i h1, rd_nat d (i + 1) h2]
    rw [if_pos (by omega), if_pos (by omega), if_pos (by omega), l1Num_int s[i] (by omega) (by omega) K (by omega), l1Num_int d[i + 1] (by omega) (by omega) K (by omega)]
    simp only [Option.bind_some, ByteArray.size_append]
    rw [if_pos (by omega), if_pos (by omega), if_pos (by omega), if_pos (by omega), if_pos (by omega), if_pos (by omega), htx_step,
      specText_l0 s d hl hd hs hdd n (i + 1) K _ (by omega) (by omega) (by
        rw [nm_size] at z1 z2
        simp only [List.length_append, List.length_cons]; omega)]
    rw [List.drop_eq_getElem_cons h1, List.drop_eq_getElem_cons h2]
    simp [htl]
theorem ldText_eq (s d : List Int) (h : hsB s d = true) (K : Nat) (hK : 100 ≤ K) : spec_ldText.f K s d = some (hTxt s d) := by
  obtain ⟨h1, h2, h3, h4, h5⟩ := hsB_facts h
  have e0 : rd d 0 = d[0] := rd_nat d 0 (by omega)
  have b := h5 d[0] (List.getElem_mem (by omega))
  have z := nm_le' d[0] (by omega) (by omega)
  rw [nm_size] at z
  unfold spec_ldText.f
  rw [if_pos (by omega), e0, l1Num_int d[0] (by omega) (by omega) K (by omega)]
  simp only [Option.bind_some]
  have := specText_l0 s d h3 h2 h4 h5 s.length 0 K (itoa d[0]) (by omega) (by omega) (by omega)
  unfold hTxt
  rw [e0]
  exact this
end Htx
section Prh
open Go.Lib
def pA (p : List UInt8) : Int := numOf (cut p [58]).1
def pB (p : List UInt8) : Int := numOf (cut p [58]).2.1
def phS (l : List UInt8) : List Int := ((spl 94 l).drop 1).map pA
def phD (l : List UInt8) : List Int := numOf ((spl 94 l).headD []) :: ((spl 94 l).drop 1).map pB
def phV (l : List UInt8) : List Int × List Int × Bool := if hsB (phS l) (phD l) = true then (phS l, phD l, true) else ([], [], false)
theorem spl_len (b : UInt8) : ∀ l : List UInt8, (spl b l).length ≤ l.length + 1
  | [] => by simp [spl]
  | c :: r => by
    have ih := spl_len b r
    unfold spl
    split
    · simp only [List.length_cons]; omega
    · split
      · next h t e => rw [e] at ih; simp only [List.length_cons] at ih ⊢; omega
      · simp
theorem spl_join (b : UInt8) : ∀ (l h : List UInt8) (t : List (List UInt8)), spl b l = h :: t → l = h ++ (t.map (b :: ·)).flatten
  | [], h, t, e => by
    simp only [spl, List.cons.injEq] at e
    obtain ⟨rfl, rfl⟩ := e
    rfl
  | c :: r, h, t, e => by
    cases e2 : spl b r with
    | nil => exact absurd e2 (spl_ne b r)
    | cons h' t' =>
      have ih := spl_join b r h' t' e2
      by_cases hc : c = b
      · rw [spl, if_pos hc] at e
        simp only [List.cons.injEq] at e
        obtain ⟨rfl, rfl⟩ := e
        rw [e2, List.map_cons, List.flatten_cons, hc, List.nil_append, List.cons_append, ← ih]
      · rw [spl, if_neg hc, e2] at e
        simp only [List.cons.injEq] at e
        obtain ⟨rfl, rfl⟩ := e
        rw [List.cons_append, ← ih]
theorem itoa_num {p : List UInt8} (h : 0 ≤ numOf p) : itoa (numOf p) = p := by
  rcases numOf_cases p with h' | ⟨n, _, e, rfl⟩
  · omega
  · rw [e, itoa_dec]
theorem part_two {p : List UInt8} (hb : 0 ≤ pB p) : (spl 58 p).length = 2 ∧ ∃ x y, p = x ++ 58 :: y ∧ 58 ∉ x ∧ 58 ∉ y ∧ spl 58 p = [x, y] ∧ pA p = numOf x ∧ pB p = numOf y := by
  rcases spl_two 58 p with ⟨x, y, hl, hx, hy, hs, hc⟩ | ⟨_, h⟩
  · exact ⟨by rw [hs]; rfl, x, y, hl, hx, hy, hs, by unfold pA; rw [hc], by unfold pB; rw [hc]⟩
  · have := num_many 58 (by decide) h
    unfold pB at hb
    omega
theorem htl_parts : ∀ ps : List (List UInt8), (∀ p ∈ ps, 0 ≤ pA p ∧ 0 ≤ pB p) → htl (ps.map pA) (ps.map pB) = (ps.map (94 :: ·)).flatten
  | [], _ => rfl
  | p :: ps, h => by
    obtain ⟨ha, hb⟩ := h p (by simp)
    obtain ⟨_, x, y, hp, _, _, _, e1, e2⟩ := part_two hb
    rw [e1] at ha; rw [e2] at hb
    rw [List.map_cons, List.map_cons, List.map_cons, List.flatten_cons, htl, htl_parts ps (fun q hq => h q (by simp [hq])), e1, e2, itoa_num ha, itoa_num hb, hp]
    simp
theorem parts_len : ∀ ps : List (List UInt8), (∀ p ∈ ps, 0 ≤ pA p ∧ pA p ≤ 40 ∧ 0 ≤ pB p ∧ pB p ≤ 20) → ((ps.map (94 :: ·)).flatten).length ≤ 6 * ps.length
  | [], _ => by simp
  | p :: ps, h => by
    obtain ⟨ha, ha2, hb, hb2⟩ := h p (by simp)
    obtain ⟨_, x, y, hp, _, _, _, e1, e2⟩ := part_two hb
    have e3 : (10 : Int) ^ (1 + 1) = 100 := by decide
    have l1 := numOf_len (l := x) (k := 1) (by omega) (by omega)
    have l2 := numOf_len (l := y) (k := 1) (by omega) (by omega)
    have := parts_len ps (fun q hq => h q (by simp [hq]))
    rw [List.map_cons, List.flatten_cons, List.length_append, hp]
    simp only [List.length_cons, List.length_append]
    omega
theorem ph_good {l : List UInt8} (h : hsB (phS l) (phD l) = true) : (hTxt (phS l) (phD l)) = ⟨l.toArray⟩ ∧ l.length ≤ 84 ∧ ∀ p ∈ (spl 94 l).drop 1, (spl 58 p).length = 2 := by
  obtain ⟨h1, h2, h3, h4, h5⟩ := hsB_facts h
  cases e : spl 94 l with
  | nil => exact absurd e (spl_ne 94 l)
  | cons p0 ps =>
    have hj := spl_join 94 l p0 ps e
    have eS : phS l = ps.map pA := by unfold phS; rw [e]; rfl
    have eD : phD l = numOf p0 :: ps.map pB := by unfold phD; rw [e]; rfl
    rw [eS] at h4 ⊢; rw [eD] at h2 h5 ⊢
    have hp : ∀ p ∈ ps, 0 ≤ pA p ∧ pA p ≤ 40 ∧ 0 ≤ pB p ∧ pB p ≤ 20 := fun p hp => by
      have a := h4 (pA p) (List.mem_map_of_mem hp)
      have b := h5 (pB p) (by simp only [List.mem_cons, List.mem_map]; exact .inr ⟨p, hp, rfl⟩)
      omega
    have h0 := h5 (numOf p0) (by simp)
    have e3 : (10 : Int) ^ (1 + 1) = 100 := by decide
    have l0 := numOf_len (l := p0) (k := 1) (by omega) (by omega)
    refine ⟨?_, ?_, fun p hpp => (part_two (hp p hpp).2.2.1).1⟩
    · unfold hTxt
      have er : rd (numOf p0 :: ps.map pB) 0 = numOf p0 := rfl
      rw [er, itoa_num (by omega), List.drop_succ_cons, List.drop_zero, htl_parts ps (fun p q => ⟨(hp p q).1, (hp p q).2.2.1⟩), ← hj]
    · rw [hj, List.length_append]
      have := parts_len ps hp
      simp only [List.length_cons, List.length_map] at h2
      omega
theorem rdOf_nat (r : List ByteArray) (i : Nat) (h : i < r.length) : rdOf ByteArray.empty r (i : Int) = r[i] := by simp [rdOf, List.getD, h]
theorem implParse_l0 (y : List ByteArray) (hy : y.length ≤ 2000000) (hz : ∀ a ∈ y, a.size ≤ 1048576) : ∀ (n i K : Nat) (s d : List Int), i + n = y.length → n < K → s.length ≤ i → d.length ≤ i + 1 →
    impl_ParseHouse.l0 K y (y.length : Int) (i : Int) s d = some (if hsB (s ++ ((y.map (·.data.toList)).drop i).map pA) (d ++ ((y.map (·.data.toList)).drop i).map pB) = true then (s ++ ((y.map (·.data.toList)).drop i).map pA, d ++ ((y.map (·.data.toList)).drop i).map pB, true) else ([], [], false))
  | 0, i, K, s, d, hi, hK, hs, hd => by
    obtain ⟨K, rfl⟩ : ∃ m, K = m + 1 := ⟨K - 1, by omega⟩
    have e : (y.map (·.data.toList)).drop i = [] := List.drop_of_length_le (by rw [List.length_map]; omega)
    simp only [impl_ParseHouse.l0]
    rw [if_neg (by omega), isHouse_eq s d (by omega), e]
    simp only [Option.bind_some, List.map_nil, List.append_nil]
    split <;> rfl
  | n + 1, i, K, s, d, hi, hK, hs, hd => by
    obtain ⟨K, rfl⟩ : ∃ m, K = m + 1 := ⟨K - 1, by omega⟩
    have h1 : i < y.length := by omega
    have hzi := hz y[i] (List.getElem_mem h1)
    have hzl : y[i].data.toList.length = y[i].size := Array.length_toList
    have c1 := cut_len1 y[i].data.toList 58
    have c2 := cut_len2 y[i].data.toList 58
    have ed : (y.map (·.data.toList)).drop i = y[i].data.toList :: (y.map (·.data.toList)).drop (i + 1) := by
      rw [List.drop_eq_getElem_cons (by rw [List.length_map]; omega), List.getElem_map]
    simp only [impl_ParseHouse.l0, w_succ i (by omega), rdOf_nat y i h1]
    rw [if_pos (by omega), if_pos (by omega), if_pos (by omega), Cut_eq _ _ hzi]
    simp only [Option.bind_some]
    rw [num_eq _ (by rw [size_mk]; omega)]
    simp only [Option.bind_some]
    rw [if_pos (by omega), num_eq _ (by rw [size_mk]; omega)]
    simp only [Option.bind_some]
    rw [if_pos (by omega), implParse_l0 y hy hz n (i + 1) K _ _ (by omega) (by omega) (by simp; omega) (by simp; omega), ed]
    simp [pA, pB]
theorem Split_eq (s : ByteArray) (b : UInt8) (h : s.size ≤ 1048576) : ∃ r, strings_Split.f s (⟨#[b]⟩ : ByteArray) = some r ∧ r.map (·.data.toList) = spl b s.data.toList := by
  refine ⟨_, by unfold strings_Split.f; rw [if_pos ⟨by omega, Nat.le_refl _⟩], ?_⟩
  rw [splitB_data]
  show splitK [b] 0 _ _ = _
  exact splitK_eq b _ _ (by
    have : countB s ⟨#[b]⟩ = count s.data.toList [b] := rfl
    rw [this, count_one]; exact Nat.le_refl _)
theorem part_size {s : ByteArray} {r : List ByteArray} {b : UInt8} (h : r.map (·.data.toList) = spl b s.data.toList) : ∀ a ∈ r, a.size ≤ s.size := fun a ha => by
  have hm : a.data.toList ∈ spl b s.data.toList := by rw [← h]; exact List.mem_map_of_mem ha
  have hz : s.data.toList.length = s.size := Array.length_toList
  have hz2 : a.data.toList.length = a.size := Array.length_toList
  cases e : spl b s.data.toList with
  | nil => exact absurd e (spl_ne b _)
  | cons p ps =>
    have hj := spl_join b _ p ps e
    rw [e] at hm
    have hlen : a.data.toList.length ≤ s.data.toList.length := by
      rw [hj, List.length_append]
      rcases List.mem_cons.1 hm with h | h
      · rw [h]; omega
      · have : (b :: a.data.toList).length ≤ ((ps.map (b :: ·)).flatten).length := (List.sublist_flatten_of_mem (List.mem_map_of_mem h)).length_le
        simp only [List.length_cons] at this
        omega
    omega
theorem parseHouse_impl (s : ByteArray) (hs : s.size ≤ 1048576) (K : Nat) (hK : 2000010 ≤ K) : impl_ParseHouse.f K s = some (phV s.data.toList) := by
  obtain ⟨r, hr, hm⟩ := Split_eq s 94 hs
  have hps := part_size hm
  have hlen := spl_len 94 s.data.toList
  have hz : s.data.toList.length = s.size := Array.length_toList
  have hl : r.length = (spl 94 s.data.toList).length := by rw [← hm, List.length_map]
  cases r with
  | nil => exact absurd hm.symm (spl_ne 94 _)
  | cons a y =>
    have ha := hps a (by simp)
    simp only [List.length_cons] at hl
    unfold impl_ParseHouse.f
    rw [hr]
    simp only [Option.bind_some, List.length_cons]
    have e0 : rdOf ByteArray.empty (a :: y) 0 = a := rfl
    rw [if_pos (by omega), e0, num_eq a (by omega)]
    simp only [Option.bind_some]
    rw [if_pos (by omega)]
    simp only [List.drop_succ_cons, List.drop_zero]
    have := implParse_l0 y (by omega) (fun b hb => Nat.le_trans (hps b (by simp [hb])) hs) y.length 0 K [] [numOf a.data.toList] (by omega) (by omega) (by simp) (by simp)
    have this' : impl_ParseHouse.l0 K y (y.length : Int) 0 [] [numOf a.data.toList] = _ := this
    rw [this']
    unfold phV phS phD
    rw [← hm]
    simp
def fin (l : List UInt8) (s d : List Int) : Option (List Int × List Int × Bool) := if hsB s d = true then some (s, d, ((hTxt s d).toList == (⟨l.toArray⟩ : ByteArray).toList)) else some (s, d, false)
theorem specParse_two (a0 : ByteArray) (r : List ByteArray) (hr : r.length ≤ 100) (hz : ∀ a ∈ r, a.size ≤ 1048576) : ∀ (n i K : Nat) (s d : List Int), 1 ≤ i → i + n = r.length → n + 1048800 ≤ K → s.length ≤ i → d.length ≤ i + 1 →
    (∀ p ∈ (r.map (·.data.toList)).drop i, (spl 58 p).length = 2) →
    spec_ldParse.l0 K a0 r (r.length : Int) (i : Int) s d = fin a0.data.toList (s ++ ((r.map (·.data.toList)).drop i).map pA) (d ++ ((r.map (·.data.toList)).drop i).map pB)
  | 0, i, K, s, d, h1i, hi, hK, hs, hd, _ => by
    obtain ⟨K, rfl⟩ : ∃ m, K = m + 1 := ⟨K - 1, by omega⟩
    have e : (r.map (·.data.toList)).drop i = [] := List.drop_of_length_le (by rw [List.length_map]; omega)
    simp only [spec_ldParse.l0]
    rw [if_neg (by omega), ldGood_eq s d (by omega) K (by omega), e]
    simp only [Option.bind_some, List.map_nil, List.append_nil, fin]
    by_cases h : hsB s d = true
    · rw [if_pos h, if_pos h, ldText_eq s d h K (by omega)]
      rfl
    · rw [if_neg h, if_neg h]
  | n + 1, i, K, s, d, h1i, hi, hK, hs, hd, h => by
    obtain ⟨K, rfl⟩ : ∃ m, K = m + 1 := ⟨K - 1, by omega⟩
    have h1 : i < r.length := by omega
    have ed : (r.map (·.data.toList)).drop i = r[i].data.toList :: (r.map (·.data.toList)).drop (i + 1) := by
      rw [List.drop_eq_getElem_cons (by rw [List.length_map]; omega), List.getElem_map]
    rw [ed] at h ⊢
    have h2 := h _ (List.mem_cons_self ..)
    obtain ⟨q, hq, hqm⟩ := l1Split_eq r[i] (hz _ (List.getElem_mem h1)) 58 K (by omega)
    have hq' : spec_l1Split.f K r[i] 58 = some q := hq
    rcases spl_two 58 r[i].data.toList with ⟨x, y, hl, hx, hy, hsp, hc⟩ | ⟨hne, _⟩
    · rw [hsp] at hqm
      obtain ⟨a, b, rfl, ha, hb⟩ := two_of hqm
      have f0 : rdOf ByteArray.empty [a, b] 0 = a := rfl
      have f1 : rdOf ByteArray.empty [a, b] 1 = b := rfl
      have ea : pA r[i].data.toList = numOf x := by unfold pA; rw [hc]
      have eb : pB r[i].data.toList = numOf y := by unfold pB; rw [hc]
      simp only [spec_ldParse.l0, w_succ i (by omega), rdOf_nat r i h1]
      rw [if_pos (by omega), if_pos (by omega), if_pos (by omega), if_neg (by omega), hq']
      simp only [Option.bind_some]
      rw [if_pos (by simp), if_pos (by simp), f0, l1Read_eq a K (by omega)]
      simp only [Option.bind_some]
      rw [if_pos (by omega), if_pos (by simp), f1, l1Read_eq b K (by omega)]
      simp only [Option.bind_some]
      rw [if_pos (by omega), specParse_two a0 r hr hz n (i + 1) K _ _ (by omega) (by omega) (by omega) (by simp; omega) (by simp; omega) (fun p hp => h p (by simp [hp])), ha, hb]
      simp [ea, eb]
    · exact absurd h2 hne
theorem specParse_not (a0 : ByteArray) (r : List ByteArray) (hr : r.length ≤ 100) (hz : ∀ a ∈ r, a.size ≤ 1048576) : ∀ (n i K : Nat) (s d : List Int), 1 ≤ i → i + n = r.length → n + 1048800 ≤ K → s.length ≤ i → d.length ≤ i + 1 →
    (∃ p ∈ (r.map (·.data.toList)).drop i, (spl 58 p).length ≠ 2) → ∃ s' d', spec_ldParse.l0 K a0 r (r.length : Int) (i : Int) s d = some (s', d', false)
  | 0, i, K, s, d, h1i, hi, hK, hs, hd, h => by
    have e : (r.map (·.data.toList)).drop i = [] := List.drop_of_length_le (by rw [List.length_map]; omega)
    rw [e] at h
    obtain ⟨p, hp, _⟩ := h
    cases hp
  | n + 1, i, K, s, d, h1i, hi, hK, hs, hd, h => by
    obtain ⟨K, rfl⟩ : ∃ m, K = m + 1 := ⟨K - 1, by omega⟩
    have h1 : i < r.length := by omega
    have ed : (r.map (·.data.toList)).drop i = r[i].data.toList :: (r.map (·.data.toList)).drop (i + 1) := by
      rw [List.drop_eq_getElem_cons (by rw [List.length_map]; omega), List.getElem_map]
    rw [ed] at h
    obtain ⟨q, hq, hqm⟩ := l1Split_eq r[i] (hz _ (List.getElem_mem h1)) 58 K (by omega)
    have hq' : spec_l1Split.f K r[i] 58 = some q := hq
    simp only [spec_ldParse.l0, w_succ i (by omega), rdOf_nat r i h1]
    rw [if_pos (by omega), if_pos (by omega), if_pos (by omega), if_neg (by omega), hq']
    simp only [Option.bind_some]
    rcases spl_two 58 r[i].data.toList with ⟨x, y, hl, hx, hy, hsp, hc⟩ | ⟨hne, _⟩
    · rw [hsp] at hqm
      obtain ⟨a, b, rfl, ha, hb⟩ := two_of hqm
      have f0 : rdOf ByteArray.empty [a, b] 0 = a := rfl
      have f1 : rdOf ByteArray.empty [a, b] 1 = b := rfl
      rw [if_pos (by simp), if_pos (by simp), f0, l1Read_eq a K (by omega)]
      simp only [Option.bind_some]
      rw [if_pos (by omega), if_pos (by simp), f1, l1Read_eq b K (by omega)]
      simp only [Option.bind_some]
      rw [if_pos (by omega)]
      refine specParse_not a0 r hr hz n (i + 1) K _ _ (by omega) (by omega) (by omega) (by simp; omega) (by simp; omega) ?_
      obtain ⟨p, hp, hpn⟩ := h
      rcases List.mem_cons.1 hp with e | e
      · rw [e, hsp] at hpn; exact absurd rfl hpn
      · exact ⟨p, e, hpn⟩
    · have : q.length ≠ 2 := by
        have := congrArg List.length hqm
        rw [List.length_map] at this
        omega
      rw [if_neg (by omega)]
      exact ⟨_, _, rfl⟩
theorem parseHouse_spec (s : ByteArray) (hs : s.size ≤ 1048576) (K : Nat) (hK : 2000010 ≤ K) : spec_ParseHouse.f K s = some (phV s.data.toList) := by
  have hz : s.data.toList.length = s.size := Array.length_toList
  unfold spec_ParseHouse.f spec_ldParse.f
  by_cases c : (s.size : Int) > 84
  · rw [if_pos c]
    simp only [Option.bind_some]
    rw [if_neg (by simp)]
    unfold phV
    rw [if_neg]
    intro h
    have := (ph_good h).2.1
    omega
  · rw [if_neg c]
    obtain ⟨r, hr, hm⟩ := l1Split_eq s hs 94 K (by omega)
    have hr' : spec_l1Split.f K s 94 = some r := hr
    have hps := part_size hm
    have hlen := spl_len 94 s.data.toList
    have hl : r.length = (spl 94 s.data.toList).length := by rw [← hm, List.length_map]
    rw [hr']
    simp only [Option.bind_some]
    cases e : r with
    | nil => rw [e] at hm; exact absurd hm.symm (spl_ne 94 _)
    | cons a y =>
      rw [e] at hl hm hps
      have ha := hps a (by simp)
      have e0 : rdOf ByteArray.empty (a :: y) 0 = a := rfl
      obtain ⟨K, rfl⟩ : ∃ m, K = m + 1 := ⟨K - 1, by omega⟩
      have w1 : wrap64 (0 + 1) = ((1 : Nat) : Int) := by unfold wrap64; omega
      have h0 : spec_ldParse.l0 (K + 1) s (a :: y) ((a :: y).length : Int) 0 [] [] = spec_ldParse.l0 K s (a :: y) ((a :: y).length : Int) ((1 : Nat) : Int) [] [numOf a.data.toList] := by
        rw [spec_ldParse.l0]
        rw [if_pos (by simp only [List.length_cons]; omega), if_pos (by omega), if_pos (by simp only [List.length_cons]; omega), if_pos rfl, e0, l1Read_eq a K (by omega), w1]
        rfl
      rw [h0]
      have eS : phS s.data.toList = [] ++ (((a :: y).map (·.data.toList)).drop 1).map pA := by unfold phS; rw [hm]; rfl
      have eD : phD s.data.toList = [numOf a.data.toList] ++ (((a :: y).map (·.data.toList)).drop 1).map pB := by unfold phD; rw [← hm]; rfl
      by_cases h : ∀ p ∈ ((a :: y).map (·.data.toList)).drop 1, (spl 58 p).length = 2
      · rw [specParse_two s (a :: y) (by omega) (fun b hb => Nat.le_trans (hps b hb) hs) y.length 1 K [] [numOf a.data.toList] (by omega) (by simp; omega) (by simp only [List.length_cons] at hl; omega) (by simp) (by simp) h, ← eS, ← eD]
        unfold fin phV
        by_cases g : hsB (phS s.data.toList) (phD s.data.toList) = true
        · rw [if_pos g, if_pos g]
          simp only [Option.bind_some]
          rw [(ph_good g).1, if_pos (by simp)]
        · rw [if_neg g, if_neg g]
          simp only [Option.bind_some]
          rw [if_neg (by simp)]
      · have h' : ∃ p ∈ ((a :: y).map (·.data.toList)).drop 1, (spl 58 p).length ≠ 2 := Classical.byContradiction fun hn => h fun p hp => Classical.byContradiction fun hq => hn ⟨p, hp, hq⟩
        obtain ⟨s', d', e'⟩ := specParse_not s (a :: y) (by omega) (fun b hb => Nat.le_trans (hps b hb) hs) y.length 1 K [] [numOf a.data.toList] (by omega) (by simp; omega) (by simp only [List.length_cons] at hl; omega) (by simp) (by simp) h'
        rw [e']
        simp only [Option.bind_some]
        rw [if_neg (by simp)]
        unfold phV
        rw [if_neg]
        intro g
        obtain ⟨p, hp, hpn⟩ := h'
        exact hpn ((ph_good g).2.2 p (by rw [← hm]; exact hp))
end Prh
section Itn
open Go.Lib
theorem itoa_dig {n : Int} (h : 0 ≤ n) : ∀ c ∈ itoa n, 48 ≤ c.toNat ∧ c.toNat ≤ 57 := by
  obtain ⟨m, rfl⟩ : ∃ m : Nat, n = m := ⟨n.toNat, by omega⟩
  rw [itoa_dec]; exact dd_digit m
theorem numOf_itoa {n : Int} (h : 0 ≤ n) (h2 : n ≤ 999999) : numOf (itoa n) = n := by
  obtain ⟨m, rfl⟩ : ∃ m : Nat, n = m := ⟨n.toNat, by omega⟩
  rw [itoa_dec, numOf_dec m (by omega)]
end Itn
section Hx2
open Go.Lib
theorem spl_parts (b : UInt8) : ∀ (ps : List (List UInt8)) (x : List UInt8), b ∉ x → (∀ p ∈ ps, b ∉ p) → spl b (x ++ (ps.map (b :: ·)).flatten) = x :: ps
  | [], x, hx, _ => by simp [spl_miss b x hx]
  | p :: ps, x, hx, hp => by
    have ih := spl_parts b ps p (hp p (by simp)) (fun q hq => hp q (by simp [hq]))
    simp only [List.map_cons, List.flatten_cons, List.cons_append]
    rw [spl_hit b _ x hx, ih]
def prt (a b : Int) : List UInt8 := itoa a ++ 58 :: itoa b
theorem htl_prt : ∀ (s d : List Int), s.length = d.length → htl s d = ((List.zipWith prt s d).map (94 :: ·)).flatten
  | [], [], _ => rfl
  | a :: s, b :: d, h => by
    simp only [htl, List.zipWith_cons_cons, List.map_cons, List.flatten_cons, htl_prt s d (by simpa using h), prt]
    simp
theorem not_itoa {n : Int} (h : 0 ≤ n) (c : UInt8) (hc : c.toNat < 48 ∨ 57 < c.toNat) : c ∉ itoa n := fun hm => by
  have := itoa_dig h c hm
  omega
theorem not_prt {a b : Int} (ha : 0 ≤ a) (hb : 0 ≤ b) : (94 : UInt8) ∉ prt a b := by
  unfold prt
  intro h
  simp only [List.mem_append, List.mem_cons] at h
  rcases h with h | h | h
  · exact not_itoa ha 94 (by decide) h
  · exact absurd h (by decide)
  · exact not_itoa hb 94 (by decide) h
theorem pA_prt {a b : Int} (ha : 0 ≤ a ∧ a ≤ 999999) : pA (prt a b) = a := by
  unfold pA prt
  rw [cut_hit 58 _ _ (not_itoa ha.1 58 (by decide))]
  exact numOf_itoa ha.1 ha.2
theorem pB_prt {a b : Int} (ha : 0 ≤ a) (hb : 0 ≤ b ∧ b ≤ 999999) : pB (prt a b) = b := by
  unfold pB prt
  rw [cut_hit 58 _ _ (not_itoa ha 58 (by decide))]
  exact numOf_itoa hb.1 hb.2
theorem mapA : ∀ (s d : List Int), s.length = d.length → (∀ x ∈ s, 0 ≤ x ∧ x ≤ 999999) → (List.zipWith prt s d).map pA = s
  | [], [], _, _ => rfl
  | a :: s, b :: d, h, hs => by
    simp only [List.zipWith_cons_cons, List.map_cons, pA_prt (hs a (by simp)), mapA s d (by simpa using h) (fun x hx => hs x (by simp [hx]))]
theorem mapB : ∀ (s d : List Int), s.length = d.length → (∀ x ∈ s, 0 ≤ x) → (∀ x ∈ d, 0 ≤ x ∧ x ≤ 999999) → (List.zipWith prt s d).map pB = d
  | [], [], _, _, _ => rfl
  | a :: s, b :: d, h, hs, hd => by
    simp only [List.zipWith_cons_cons, List.map_cons, pB_prt (hs a (by simp)) (hd b (by simp)), mapB s d (by simpa using h) (fun x hx => hs x (by simp [hx])) (fun x hx => hd x (by simp [hx]))]
theorem zip_not : ∀ (s d : List Int), (∀ x ∈ s, 0 ≤ x) → (∀ x ∈ d, 0 ≤ x) → ∀ p ∈ List.zipWith prt s d, (94 : UInt8) ∉ p
  | [], _, _, _, p, hp => by simp at hp
  | _ :: _, [], _, _, p, hp => by simp at hp
  | a :: s, b :: d, hs, hd, p, hp => by
    simp only [List.zipWith_cons_cons, List.mem_cons] at hp
    rcases hp with rfl | hp
    · exact not_prt (hs a (by simp)) (hd b (by simp))
    · exact zip_not s d (fun x hx => hs x (by simp [hx])) (fun x hx => hd x (by simp [hx])) p hp
theorem phV_text {s d : List Int} (h : hsB s d = true) : phV (hTxt s d).data.toList = (s, d, true) := by
  obtain ⟨f1, f2, f3, f4, f5⟩ := hsB_facts h
  obtain ⟨d0, ds, rfl⟩ : ∃ d0 ds, d = d0 :: ds := by
    cases d with
    | nil => simp at f1
    | cons d0 ds => exact ⟨d0, ds, rfl⟩
  have hl : s.length = ds.length := by simpa using f3
  have b0 := f5 d0 (by simp)
  have bs : ∀ x ∈ s, 0 ≤ x ∧ x ≤ 999999 := fun x hx => by have := f4 x hx; omega
  have bd : ∀ x ∈ ds, 0 ≤ x ∧ x ≤ 999999 := fun x hx => by have := f5 x (by simp [hx]); omega
  have e : (hTxt s (d0 :: ds)).data.toList = itoa d0 ++ ((List.zipWith prt s ds).map (94 :: ·)).flatten := by
    rw [← htl_prt s ds hl]
    rfl
  have sp : spl 94 (hTxt s (d0 :: ds)).data.toList = itoa d0 :: List.zipWith prt s ds := by
    rw [e]
    exact spl_parts 94 _ _ (not_itoa b0.1 94 (by decide)) (zip_not s ds (fun x hx => (bs x hx).1) (fun x hx => (bd x hx).1))
  have eS : phS (hTxt s (d0 :: ds)).data.toList = s := by
    unfold phS
    rw [sp]
    exact mapA s ds hl bs
  have eD : phD (hTxt s (d0 :: ds)).data.toList = d0 :: ds := by
    unfold phD
    rw [sp]
    simp only [List.headD_cons, List.drop_succ_cons, List.drop_zero, numOf_itoa b0.1 (by omega), mapB s ds hl (fun x hx => (bs x hx).1) bd]
  unfold phV
  rw [eS, eD, if_pos h]
theorem hTxt_size {s d : List Int} (h : hsB s d = true) : (hTxt s d).size ≤ 1048576 := by
  have e := phV_text h
  have g : hsB (phS (hTxt s d).data.toList) (phD (hTxt s d).data.toList) = true := by
    unfold phV at e
    split at e
    · rename_i c; exact c
    · cases e
  have := (ph_good g).2.1
  have z : (hTxt s d).data.toList.length = (hTxt s d).size := Array.length_toList
  omega
theorem phV_back (t : ByteArray) (h : (phV t.data.toList).2.2 = true) : hsB (phV t.data.toList).1 (phV t.data.toList).2.1 = true ∧ hTxt (phV t.data.toList).1 (phV t.data.toList).2.1 = t := by
  by_cases c : hsB (phS t.data.toList) (phD t.data.toList) = true
  · have e : phV t.data.toList = (phS t.data.toList, phD t.data.toList, true) := by unfold phV; rw [if_pos c]
    rw [e]
    exact ⟨c, (ph_good c).1⟩
  · have e : phV t.data.toList = ([], [], false) := by unfold phV; rw [if_neg c]
    rw [e] at h
    cases h
end Hx2
theorem sum_l (l : List Int) (hl : Small l) (n : Nat) : ∀ (k i : Nat) (a : Int), i + n = l.length → n < k → 0 ≤ a → a ≤ 40 * i → impl_sum.l0 k a l (l.length : Int) (i : Int) = some (a + isum (l.drop i)) := by
  have h20 := hl.1
  induction n with
  | zero =>
    intro k i a hd hk h0 h1
    obtain ⟨k, rfl⟩ : ∃ m, k = m + 1 := ⟨k - 1, by omega⟩
    simp only [impl_sum.l0]
    rw [if_neg (by omega), List.drop_of_length_le (by omega)]
    simp [isum]
  | succ n ih =>
    intro k i a hd hk h0 h1
    obtain ⟨k, rfl⟩ : ∃ m, k = m + 1 := ⟨k - 1, by omega⟩
    have hi : i < l.length := by omega
    have hb := hl.2 l[i] (List.getElem_mem hi)
    have ew : wrap64 ((i : Int) + 1) = ((i + 1 : Nat) : Int) := by rw [wr (by omega) (by omega)]; omega
    have ea : wrap64 (a + l[i]) = a + l[i] := wr (by omega) (by omega)
    simp only [impl_sum.l0, ew, rd_nat l i hi, ea]
    rw [if_pos (by omega), if_pos (by omega), if_pos (by omega), ih k (i + 1) _ (by omega) (by omega) (by omega) (by omega), List.drop_eq_getElem_cons hi]
    simp only [isum]
    congr 1
    omega
theorem sum_val (l : List Int) (hl : Small l) (k : Nat) (hk : 21 ≤ k) : impl_sum.f k l = some (isum l) := by
  have h20 := hl.1
  have := sum_l l hl l.length k 0 0 (by omega) (by omega) (by omega) (by omega)
  simpa [impl_sum.f] using this
theorem ldSum_l (l : List Int) (hl : Small l) (n : Nat) : ∀ (k i : Nat) (a : Int), i + n = l.length → n < k → 0 ≤ a → a ≤ 40 * i → spec_ldSum.l0 k a l (l.length : Int) (i : Int) = some (a + isum (l.drop i)) := by
  have h20 := hl.1
  induction n with
  | zero =>
    intro k i a hd hk h0 h1
    obtain ⟨k, rfl⟩ : ∃ m, k = m + 1 := ⟨k - 1, by omega⟩
    simp only [spec_ldSum.l0]
    rw [if_neg (by omega), List.drop_of_length_le (by omega)]
    simp [isum]
  | succ n ih =>
    intro k i a hd hk h0 h1
    obtain ⟨k, rfl⟩ : ∃ m, k = m + 1 := ⟨k - 1, by omega⟩
    have hi : i < l.length := by omega
    have hb := hl.2 l[i] (List.getElem_mem hi)
    have ew : wrap64 ((i : Int) + 1) = ((i + 1 : Nat) : Int) := by rw [wr (by omega) (by omega)]; omega
    have ea : wrap64 (a + l[i]) = a + l[i] := wr (by omega) (by omega)
    simp only [spec_ldSum.l0, ew, rd_nat l i hi, ea]
    rw [if_pos (by omega), if_pos (by omega), if_pos (by omega), ih k (i + 1) _ (by omega) (by omega) (by omega) (by omega), List.drop_eq_getElem_cons hi]
    simp only [isum]
    congr 1
    omega
theorem ldSum_val (l : List Int) (hl : Small l) (k : Nat) (hk : 21 ≤ k) : spec_ldSum.f k l = some (isum l) := by
  have h20 := hl.1
  have := ldSum_l l hl l.length k 0 0 (by omega) (by omega) (by omega) (by omega)
  simpa [spec_ldSum.f] using this
theorem ldTo_val (s d : List Int) (h : hsB s d = true) (a : Int) (ha : 0 ≤ a ∧ a ≤ (s.length : Int)) (k : Nat) (hk : 21 ≤ k) : spec_ldTo.f k s d a = some (isum (s.take a.toNat)) := by
  simp only [spec_ldTo.f]
  rw [if_pos ha.1, if_pos ha.2, ldSum_val _ ((small_s h).take _) k hk]
  rfl
def landI (most at_ n : Int) : Nat → Int → List Int
  | 0, _ => []
  | d + 1, st => if st < n then wrap64 (at_ + st) :: landI most at_ n d (st + most) else []
theorem landI_length (most at_ n : Int) (d : Nat) : ∀ st, (landI most at_ n d st).length ≤ d := by
  induction d with
  | zero => intro st; exact Nat.le_refl _
  | succ d ih =>
    intro st
    simp only [landI]
    split
    · have := ih (st + most)
      simp only [List.length_cons]
      omega
    · simp
theorem landI_none (most at_ n : Int) (d : Nat) (st : Int) (h : ¬ st < n) : landI most at_ n d st = [] := by
  cases d with
  | zero => rfl
  | succ d =>
    simp only [landI]
    rw [if_neg h]
def landO (most : Int) : List Int → Int → List Int
  | [], _ => []
  | x :: t, at_ => landI most at_ x 60 most ++ landO most t (at_ + x)
theorem landO_length (most : Int) (l : List Int) : ∀ at_, (landO most l at_).length ≤ 60 * l.length := by
  induction l with
  | nil => intro at_; simp [landO]
  | cons x t ih =>
    intro at_
    have h1 := ih (at_ + x)
    have h2 := landI_length most at_ x 60 most
    simp only [landO, List.length_append, List.length_cons]
    omega
theorem impl_in (most at_ n : Int) (hm : 1 ≤ most ∧ most ≤ 40) (hn : n ≤ 40) (l : List Int) (i : Nat) (d : Nat) : ∀ (k : Nat) (acc : List Int) (st : Int), 1 ≤ st → st ≤ 100 → n - st ≤ d → d < k → acc.length + d ≤ 100000 →
    ∃ k', k ≤ k' + d + 1 ∧ impl_LandingsAt.l1 k most acc at_ n st l (l.length : Int) (i : Int) = impl_LandingsAt.l0 k' most (acc ++ landI most at_ n d st) (wrap64 (at_ + n)) l (l.length : Int) (wrap64 ((i : Int) + 1)) := by
  induction d with
  | zero =>
    intro k acc st h1 h2 hd hk ha
    obtain ⟨k, rfl⟩ : ∃ m, k = m + 1 := ⟨k - 1, by omega⟩
    refine ⟨k, by omega, ?_⟩
    simp only [impl_LandingsAt.l1, landI, List.append_nil]
    rw [if_neg (by omega)]
  | succ d ih =>
    intro k acc st h1 h2 hd hk ha
    obtain ⟨k, rfl⟩ : ∃ m, k = m + 1 := ⟨k - 1, by omega⟩
    simp only [impl_LandingsAt.l1]
    by_cases c : st < n
    · have es : wrap64 (st + most) = st + most := wr (by omega) (by omega)
      rw [if_pos c, if_pos (by omega), es]
      obtain ⟨k', hk', e⟩ := ih k (acc ++ [wrap64 (at_ + st)]) (st + most) (by omega) (by omega) (by omega) (by omega) (by simp only [List.length_append, List.length_singleton]; omega)
      refine ⟨k', by omega, ?_⟩
      rw [e]
      simp only [landI]
      rw [if_pos c]
      simp
    · rw [if_neg c, landI_none most at_ n (d + 1) st c, List.append_nil]
      exact ⟨k, by omega, rfl⟩
theorem impl_out (most : Int) (hm : 1 ≤ most ∧ most ≤ 40) (l : List Int) (hl : Small l) (n : Nat) : ∀ (k i : Nat) (acc : List Int) (at_ : Int), i + n = l.length → 100 * n < k → 0 ≤ at_ → at_ ≤ 40 * i → acc.length ≤ 60 * i →
    impl_LandingsAt.l0 k most acc at_ l (l.length : Int) (i : Int) = some (acc ++ landO most (l.drop i) at_, true) := by
  have h20 := hl.1
  induction n with
  | zero =>
    intro k i acc at_ hd hk h0 h1 ha
    obtain ⟨k, rfl⟩ : ∃ m, k = m + 1 := ⟨k - 1, by omega⟩
    simp only [impl_LandingsAt.l0]
    rw [if_neg (by omega), List.drop_of_length_le (by omega)]
    simp [landO]
  | succ n ih =>
    intro k i acc at_ hd hk h0 h1 ha
    obtain ⟨k, rfl⟩ : ∃ m, k = m + 1 := ⟨k - 1, by omega⟩
    have hi : i < l.length := by omega
    have hb := hl.2 l[i] (List.getElem_mem hi)
    have ew : wrap64 ((i : Int) + 1) = ((i + 1 : Nat) : Int) := by rw [wr (by omega) (by omega)]; omega
    have ea : wrap64 (at_ + l[i]) = at_ + l[i] := wr (by omega) (by omega)
    simp only [impl_LandingsAt.l0, rd_nat l i hi]
    rw [if_pos (by omega), if_pos (by omega), if_pos (by omega)]
    obtain ⟨k', hk', e⟩ := impl_in most at_ l[i] hm (by omega) l i 60 k acc most (by omega) (by omega) (by omega) (by omega) (by omega)
    rw [e, ew, ea]
    have hli := landI_length most at_ l[i] 60 most
    rw [ih k' (i + 1) _ (at_ + l[i]) (by omega) (by omega) (by omega) (by omega) (by simp only [List.length_append]; omega), List.drop_eq_getElem_cons hi]
    simp [landO]
theorem spec_in (s d : List Int) (h : hsB s d = true) (most n : Int) (hm : 1 ≤ most ∧ most ≤ 40) (hn : n ≤ 40) (l : List Int) (i : Nat) (his : i ≤ s.length) (m : Nat) : ∀ (k : Nat) (acc : List Int) (st : Int), 1 ≤ st → st ≤ 100 → n - st ≤ m → m + 30 < k → acc.length + m ≤ 100000 →
    ∃ k', k ≤ k' + m + 1 ∧ spec_ldLandings.l1 k most acc (i : Int) n st l (l.length : Int) (i : Int) s d = spec_ldLandings.l0 k' most (acc ++ landI most (isum (s.take i)) n m st) l (l.length : Int) (wrap64 ((i : Int) + 1)) s d := by
  induction m with
  | zero =>
    intro k acc st h1 h2 hd hk ha
    obtain ⟨k, rfl⟩ : ∃ m, k = m + 1 := ⟨k - 1, by omega⟩
    refine ⟨k, by omega, ?_⟩
    simp only [spec_ldLandings.l1, landI, List.append_nil]
    rw [if_neg (by omega)]
  | succ m ih =>
    intro k acc st h1 h2 hd hk ha
    obtain ⟨k, rfl⟩ : ∃ m, k = m + 1 := ⟨k - 1, by omega⟩
    simp only [spec_ldLandings.l1]
    by_cases c : st < n
    · have es : wrap64 (st + most) = st + most := wr (by omega) (by omega)
      have et := ldTo_val s d h (i : Int) ⟨by omega, by omega⟩ k (by omega)
      rw [Int.toNat_natCast] at et
      rw [if_pos c, et]
      simp only [Option.bind_some]
      rw [if_pos (by omega), es]
      obtain ⟨k', hk', e⟩ := ih k (acc ++ [wrap64 (isum (s.take i) + st)]) (st + most) (by omega) (by omega) (by omega) (by omega) (by simp only [List.length_append, List.length_singleton]; omega)
      refine ⟨k', by omega, ?_⟩
      rw [e]
      simp only [landI]
      rw [if_pos c]
      simp
    · rw [if_neg c, landI_none most _ n (m + 1) st c, List.append_nil]
      exact ⟨k, by omega, rfl⟩
theorem isum_take_succ (l : List Int) (i : Nat) (hi : i < l.length) : isum (l.take (i + 1)) = isum (l.take i) + l[i] := by
  rw [List.take_succ_eq_append_getElem hi, isum_append]
  simp [isum]
theorem spec_out (s d : List Int) (h : hsB s d = true) (most : Int) (hm : 1 ≤ most ∧ most ≤ 40) (n : Nat) : ∀ (k i : Nat) (acc : List Int), i + n = s.length → 100 * n + 50 < k → acc.length ≤ 60 * i →
    spec_ldLandings.l0 k most acc s (s.length : Int) (i : Int) s d = some (acc ++ landO most (s.drop i) (isum (s.take i))) := by
  have hl := small_s h
  have h20 := hl.1
  induction n with
  | zero =>
    intro k i acc hd hk ha
    obtain ⟨k, rfl⟩ : ∃ m, k = m + 1 := ⟨k - 1, by omega⟩
    simp only [spec_ldLandings.l0]
    rw [if_neg (by omega), List.drop_of_length_le (by omega)]
    simp [landO]
  | succ n ih =>
    intro k i acc hd hk ha
    obtain ⟨k, rfl⟩ : ∃ m, k = m + 1 := ⟨k - 1, by omega⟩
    have hi : i < s.length := by omega
    have hb := hl.2 s[i] (List.getElem_mem hi)
    have ew : wrap64 ((i : Int) + 1) = ((i + 1 : Nat) : Int) := by rw [wr (by omega) (by omega)]; omega
    simp only [spec_ldLandings.l0, rd_nat s i hi]
    rw [if_pos (by omega), if_pos (by omega), if_pos (by omega)]
    obtain ⟨k', hk', e⟩ := spec_in s d h most s[i] hm (by omega) s i (by omega) 60 k acc most (by omega) (by omega) (by omega) (by omega) (by omega)
    rw [e, ew]
    have hli := landI_length most (isum (s.take i)) s[i] 60 most
    rw [ih k' (i + 1) _ (by omega) (by omega) (by simp only [List.length_append]; omega), List.drop_eq_getElem_cons hi, isum_take_succ s i hi]
    simp [landO]
theorem landings_impl (s d : List Int) (hd : d.length ≤ 9223372036854775807) (a : Int) (k : Nat) (hk : 2000000 < k) : impl_LandingsAt.f k s d a = some (if hsB s d = true ∧ 1 ≤ a ∧ a ≤ 40 then (landO a s 0, true) else ([], false)) := by
  obtain ⟨k, rfl⟩ : ∃ m, k = m + 1 := ⟨k - 1, by omega⟩
  by_cases h : hsB s d = true
  · by_cases ha : 1 ≤ a ∧ a ≤ 40
    · have hl := small_s h
      have h20 := hl.1
      have e := impl_out a ha s hl s.length k 0 [] 0 (by omega) (by omega) (by omega) (by omega) (by simp)
      simp only [List.nil_append, Int.natCast_zero, List.drop_zero] at e
      have e2 : impl_LandingsAt.l0 k a [] 0 s (s.length : Int) 0 = some (landO a s 0, true) := e
      simp [impl_LandingsAt.f, impl_LandingsAt.j0, within_eq, isHouse_eq s d (by omega), h, ha, e2]
    · simp [impl_LandingsAt.f, impl_LandingsAt.j0, within_eq, isHouse_eq s d (by omega), h, ha]
  · simp [impl_LandingsAt.f, impl_LandingsAt.j0, isHouse_eq s d (by omega), h]
theorem landings_spec (s d : List Int) (h : hsB s d = true) (a : Int) (ha : 1 ≤ a ∧ a ≤ 40) (k : Nat) (hk : 2000000 < k) : spec_ldLandings.f k s d a = some (landO a s 0) := by
  have hl := small_s h
  have h20 := hl.1
  have e := spec_out s d h a ha s.length k 0 [] (by omega) (by omega) (by simp)
  simp only [List.nil_append, List.drop_zero, List.take_zero, isum] at e
  simp only [spec_ldLandings.f]
  exact e
theorem ldMost_eq (s d : List Int) (hd : d.length ≤ 9223372036854775807) (a : Int) (k : Nat) (hk : 20 ≤ k) : spec_ldMost.f k s d a = some (hsB s d && decide (1 ≤ a ∧ a ≤ 40)) := by
  simp only [spec_ldMost.f, ldGood_eq s d (by omega) k hk, in_eq, Option.bind_some]
  by_cases h : hsB s d = true <;> simp [h]
section Htx2
open Go.Lib
theorem implText_l0 (s d : List Int) (hl : s.length + 1 = d.length) (hd : d.length ≤ 12) (hs : ∀ x ∈ s, 1 ≤ x ∧ x ≤ 40) (hdd : ∀ x ∈ d, 0 ≤ x ∧ x ≤ 20) :
    ∀ (n i K : Nat) (x : List UInt8), i + n = s.length → n + 21 ≤ K → x.length ≤ 21 + 44 * i → impl_HouseText.l0 K ⟨x.toArray⟩ s (s.length : Int) (i : Int) s d = some (⟨(x ++ htl (s.drop i) (d.drop (i + 1))).toArray⟩, true)
  | 0, i, K, x, hi, hK, hx => by
    obtain ⟨K, rfl⟩ : ∃ m, K = m + 1 := ⟨K - 1, by omega⟩
    simp only [impl_HouseText.l0]
    rw [if_neg (by omega), List.drop_of_length_le (by omega)]
    simp [htl]
  | n + 1, i, K, x, hi, hK, hx => by
    obtain ⟨K, rfl⟩ : ∃ m, K = m + 1 := ⟨K - 1, by omega⟩
    have h1 : i < s.length := by omega
    have h2 : i + 1 < d.length := by omega
    have ew : wrap64 ((i : Int) + 1) = ((i + 1 : Nat) : Int) := by rw [wr (by omega) (by omega)]; omega
    have b1 := hs s[i] (List.getElem_mem h1)
    have b2 := hdd d[i + 1] (List.getElem_mem h2)
    have z1 := nm_le' s[i] (by omega) (by omega)
    have z2 := nm_le' d[i + 1] (by omega) (by omega)
    have o1 : (⟨#[94]⟩ : ByteArray).size = 1 := rfl
    have o2 : (⟨#[58]⟩ : ByteArray).size = 1 := rfl
    have o3 : (⟨x.toArray⟩ : ByteArray).size = x.length := by simp [ByteArray.size]
    simp only [impl_HouseText.l0, ew, rd_nat s i h1, rd_nat d (i + 1) h2]
    rw [if_pos (by omega), if_pos (by omega), if_pos (by omega), itoa_eq s[i] (by omega) (by omega), itoa_eq d[i + 1] (by omega) (by omega)]
    simp only [Option.bind_some, ByteArray.size_append]
    rw [if_pos (by omega), if_pos (by omega), if_pos (by omega), if_pos (by omega), if_pos (by omega), if_pos (by omega), htx_step,
      implText_l0 s d hl hd hs hdd n (i + 1) K _ (by omega) (by omega) (by
        rw [nm_size] at z1 z2
        simp only [List.length_append, List.length_cons]; omega)]
    rw [List.drop_eq_getElem_cons h1, List.drop_eq_getElem_cons h2]
    simp [htl]
def hOut (s d : List Int) : ByteArray × Bool := if hsB s d = true then (hTxt s d, true) else ((⟨#[]⟩ : ByteArray), false)
theorem houseText_spec (s d : List Int) (hm : d.length ≤ 9223372036854775807) (K : Nat) (hK : 100 ≤ K) : spec_HouseText.f K s d = some (hOut s d) := by
  unfold spec_HouseText.f hOut
  rw [ldGood_eq s d hm K (by omega)]
  simp only [Option.bind_some]
  by_cases h : hsB s d = true
  · rw [if_pos h, if_pos h, ldText_eq s d h K hK]; rfl
  · rw [if_neg h, if_neg h]
theorem houseText_impl (s d : List Int) (hm : d.length ≤ 9223372036854775807) (K : Nat) (hK : 100 ≤ K) : impl_HouseText.f K s d = some (hOut s d) := by
  unfold impl_HouseText.f hOut
  rw [isHouse_eq s d hm]
  simp only [Option.bind_some]
  by_cases h : hsB s d = true
  · rw [if_pos h, if_pos h]
    obtain ⟨h1, h2, h3, h4, h5⟩ := hsB_facts h
    have e0 : rd d 0 = d[0] := rd_nat d 0 (by omega)
    have b := h5 d[0] (List.getElem_mem (by omega))
    have z := nm_le' d[0] (by omega) (by omega)
    rw [nm_size] at z
    rw [if_pos (by omega), e0, itoa_eq d[0] (by omega) (by omega)]
    simp only [Option.bind_some]
    have := implText_l0 s d h3 h2 h4 h5 s.length 0 K (itoa d[0]) (by omega) (by omega) (by omega)
    unfold hTxt
    rw [e0]
    exact this
  · rw [if_neg h, if_neg h]
end Htx2
theorem mxl_ge (t : List Int) : ∀ m, m ≤ mxl t m ∧ (∀ x ∈ t, x ≤ mxl t m) ∧ (mxl t m = m ∨ mxl t m ∈ t) := by
  induction t with
  | nil => intro m; exact ⟨Int.le_refl _, by simp, .inl rfl⟩
  | cons x t ih =>
    intro m
    have h := ih (mx m x)
    have hm : m ≤ mx m x ∧ x ≤ mx m x ∧ (mx m x = m ∨ mx m x = x) := by unfold mx; split <;> omega
    simp only [mxl]
    refine ⟨by omega, fun y hy => ?_, ?_⟩
    · rcases List.mem_cons.mp hy with e | e
      · subst e; omega
      · exact h.2.1 y e
    · rcases h.2.2 with e | e
      · rcases hm.2.2 with z | z
        · exact .inl (by rw [e, z])
        · exact .inr (by rw [e, z]; simp)
      · exact .inr (by simp [e])
theorem mxl_val (l : List Int) (h : 0 < l.length) : mxl (l.drop 1) (rd l 0) ∈ l ∧ ∀ x ∈ l, x ≤ mxl (l.drop 1) (rd l 0) := by
  cases l with
  | nil => simp at h
  | cons y t =>
    have e : rd (y :: t) 0 = y := rfl
    have g := mxl_ge t y
    simp only [List.drop_one, List.tail_cons, e]
    refine ⟨?_, fun x hx => ?_⟩
    · rcases g.2.2 with z | z
      · rw [z]; simp
      · simp [z]
    · rcases List.mem_cons.mp hx with z | z
      · subst z; exact g.1
      · exact g.2.1 x z
def landV (s d : List Int) (a : Int) : List Int × Bool := if hsB s d = true ∧ 1 ≤ a ∧ a ≤ 40 then (landO a s 0, true) else ([], false)
theorem land_i (s d : List Int) (a : Int) (hd : d.length ≤ 9223372036854775807) (k : Nat) (hk : 2000000 < k) : impl_LandingsAt.f k s d a = some (landV s d a) := landings_impl s d hd a k hk
theorem land_s (s d : List Int) (a : Int) (hd : d.length ≤ 9223372036854775807) (k : Nat) (hk : 2000000 < k) : spec_LandingsAt.f k s d a = some (landV s d a) := by
  unfold landV
  by_cases h : hsB s d = true ∧ 1 ≤ a ∧ a ≤ 40
  · simp [spec_LandingsAt.f, landings_spec s d h.1 a h.2 k hk, ldMost_eq s d hd a k (by omega), h]
  · have h' : ¬ (hsB s d && decide (1 ≤ a ∧ a ≤ 40)) = true := by simpa using h
    simp only [spec_LandingsAt.f, ldMost_eq s d hd a k (by omega), Option.bind_some, if_neg h, if_neg h']
def needV (s d : List Int) (a : Int) : Int × Bool := if hsB s d = true ∧ 1 ≤ a ∧ a ≤ 40 then (((landO a s 0).length : Int), true) else (0, false)
theorem need_i (s d : List Int) (a : Int) (hd : d.length ≤ 9223372036854775807) (k : Nat) (hk : 2000000 < k) : impl_LandingsNeeded.f k s d a = some (needV s d a) := by
  unfold needV
  by_cases h : hsB s d = true ∧ 1 ≤ a ∧ a ≤ 40
  · simp [impl_LandingsNeeded.f, landings_impl s d hd a k hk, h]
  · simp only [impl_LandingsNeeded.f, landings_impl s d hd a k hk, Option.bind_some, if_neg h]
    rfl
theorem need_s (s d : List Int) (a : Int) (hd : d.length ≤ 9223372036854775807) (k : Nat) (hk : 2000000 < k) : spec_LandingsNeeded.f k s d a = some (needV s d a) := by
  unfold needV
  by_cases h : hsB s d = true ∧ 1 ≤ a ∧ a ≤ 40
  · simp [spec_LandingsNeeded.f, landings_spec s d h.1 a h.2 k hk, ldMost_eq s d hd a k (by omega), h]
  · have h' : ¬ (hsB s d && decide (1 ≤ a ∧ a ≤ 40)) = true := by simpa using h
    simp only [spec_LandingsNeeded.f, ldMost_eq s d hd a k (by omega), Option.bind_some, if_neg h, if_neg h']
def doorV (s d : List Int) : Int × Bool := if hsB s d = true then (isum d, true) else (0, false)
theorem door_i (s d : List Int) (hd : d.length ≤ 9223372036854775807) (k : Nat) (hk : 2000000 < k) : impl_DoorsInHouse.f k s d = some (doorV s d) := by
  unfold doorV
  by_cases h : hsB s d = true
  · simp only [impl_DoorsInHouse.f, isHouse_eq s d (by omega), Option.bind_some, if_pos h, sum_val d (small_d h) k (by omega)]
  · simp only [impl_DoorsInHouse.f, isHouse_eq s d (by omega), Option.bind_some, if_neg h]
theorem door_s (s d : List Int) (hd : d.length ≤ 9223372036854775807) (k : Nat) (hk : 2000000 < k) : spec_DoorsInHouse.f k s d = some (doorV s d) := by
  unfold doorV
  by_cases h : hsB s d = true
  · simp only [spec_DoorsInHouse.f, ldGood_eq s d (by omega) k (by omega), Option.bind_some, if_pos h, ldSum_val d (small_d h) k (by omega)]
  · simp only [spec_DoorsInHouse.f, ldGood_eq s d (by omega) k (by omega), Option.bind_some, if_neg h]
theorem own_eq (l : List Int) (hl : l.length ≤ 2000000) : spec_l1Own.f l = some l := by
  simp only [spec_l1Own.f, Option.bind_some, List.nil_append, List.length_nil]
  rw [if_pos (by omega)]
theorem clone_eq (l : List Int) (hl : l.length ≤ 2000000) : slices_Clone_int_int.f l = some l := by
  unfold slices_Clone_int_int.f
  rw [if_pos (by omega)]
def dropV (s d : List Int) : List Int × List Int × Bool := if hsB s d = true ∧ ¬ (s.length : Int) = 1 then (s.take (s.length - 1), d.take s.length, true) else ([], [], false)
theorem drop_both (s d : List Int) (hd : d.length ≤ 9223372036854775807) (k : Nat) (hk : 2000000 < k) : spec_DropFloor.f k s d = some (dropV s d) ∧ impl_DropFloor.f k s d = some (dropV s d) := by
  obtain ⟨k, rfl⟩ : ∃ m, k = m + 1 := ⟨k - 1, by omega⟩
  by_cases h : hsB s d = true
  · have f := hsB_facts h
    by_cases c : (s.length : Int) = 1
    · have e : dropV s d = ([], [], false) := by unfold dropV; rw [if_neg (fun z => z.2 c)]
      rw [e]
      simp [spec_DropFloor.f, impl_DropFloor.f, spec_DropFloor.j0, impl_DropFloor.j0, ldGood_eq s d (by omega) (k + 1) (by omega), isHouse_eq s d (by omega), h, c]
    · have e : dropV s d = (s.take ((s.length : Int) - 1).toNat, d.take ((s.length : Int)).toNat, true) := by
        unfold dropV
        rw [if_pos ⟨h, c⟩, show ((s.length : Int) - 1).toNat = s.length - 1 by omega, Int.toNat_natCast]
      rw [e]
      have ew : wrap64 ((s.length : Int) - 1) = (s.length : Int) - 1 := wr (by omega) (by omega)
      have l1 : (s.take ((s.length : Int) - 1).toNat).length ≤ 2000000 := by rw [List.length_take]; omega
      have l2 : (d.take ((s.length : Int)).toNat).length ≤ 2000000 := by rw [List.length_take]; omega
      have a1 : (0 : Int) ≤ (s.length : Int) - 1 := by omega
      have a2 : (s.length : Int) - 1 ≤ (s.length : Int) := by omega
      have a3 : (0 : Int) ≤ (s.length : Int) := by omega
      have a4 : (s.length : Int) ≤ (d.length : Int) := by omega
      have cb : ((s.length : Int) == 1) = false := beq_eq_false_iff_ne.mpr c
      constructor
      · simp only [spec_DropFloor.f, spec_DropFloor.j0, ldGood_eq s d (by omega) (k + 1) (by omega), Option.bind_some, if_pos h, cb, Bool.false_eq_true, if_false, ew, if_pos a1, if_pos a2, if_pos a3, if_pos a4, own_eq _ l1, own_eq _ l2]
      · simp only [impl_DropFloor.f, impl_DropFloor.j0, isHouse_eq s d (by omega), Option.bind_some, if_pos h, cb, Bool.false_eq_true, if_false, ew, if_pos a1, if_pos a2, if_pos a3, if_pos a4, clone_eq _ l1, clone_eq _ l2]
  · have e : dropV s d = ([], [], false) := by unfold dropV; rw [if_neg (fun z => h z.1)]
    rw [e]
    simp [spec_DropFloor.f, impl_DropFloor.f, spec_DropFloor.j0, impl_DropFloor.j0, ldGood_eq s d (by omega) (k + 1) (by omega), isHouse_eq s d (by omega), h]
def addV (s d : List Int) (a c : Int) : List Int × List Int × Bool := if hsB s d = true ∧ ¬ (d.length : Int) = 12 ∧ (1 ≤ a ∧ a ≤ 40) ∧ 0 ≤ c ∧ c ≤ 20 then (s ++ [a], d ++ [c], true) else ([], [], false)
theorem add_both (s d : List Int) (a c : Int) (hd : d.length ≤ 9223372036854775807) (k : Nat) (hk : 2000000 < k) : spec_AddFloor.f k s d a c = some (addV s d a c) ∧ impl_AddFloor.f k s d a c = some (addV s d a c) := by
  obtain ⟨k, rfl⟩ : ∃ m, k = m + 1 := ⟨k - 1, by omega⟩
  by_cases h : hsB s d = true ∧ ¬ (d.length : Int) = 12 ∧ (1 ≤ a ∧ a ≤ 40) ∧ 0 ≤ c ∧ c ≤ 20
  · have e : addV s d a c = (s ++ [a], d ++ [c], true) := by unfold addV; rw [if_pos h]
    rw [e]
    obtain ⟨h, h2, h3, h4⟩ := h
    have f := hsB_facts h
    have b1 : s.length + ([a] : List Int).length < 17592186044416 := by simp only [List.length_singleton]; omega
    have b2 : d.length + ([c] : List Int).length < 17592186044416 := by simp only [List.length_singleton]; omega
    have cb : ((d.length : Int) == 12) = false := beq_eq_false_iff_ne.mpr h2
    constructor
    · simp only [spec_AddFloor.f, spec_AddFloor.j0, ldGood_eq s d (by omega) (k + 1) (by omega), in_eq, Option.bind_some, if_pos h, if_neg h2, h3, h4, and_self, decide_true, if_true, Bool.not_true, Bool.false_eq_true, if_false, own_eq s (by omega), own_eq d (by omega), if_pos b1, if_pos b2]
    · simp only [impl_AddFloor.f, impl_AddFloor.j0, isHouse_eq s d (by omega), within_eq, Option.bind_some, if_pos h, cb, h3, h4, and_self, decide_true, if_true, Bool.false_eq_true, if_false, clone_eq s (by omega), clone_eq d (by omega), if_pos b1, if_pos b2]
  · have e : addV s d a c = ([], [], false) := by unfold addV; rw [if_neg h]
    rw [e]
    by_cases h1 : hsB s d = true
    · by_cases h2 : (d.length : Int) = 12
      · by_cases h3 : 1 ≤ a ∧ a ≤ 40 <;> by_cases h4 : 0 ≤ c ∧ c ≤ 20 <;> simp [spec_AddFloor.f, impl_AddFloor.f, spec_AddFloor.j0, impl_AddFloor.j0, ldGood_eq s d (by omega) (k + 1) (by omega), isHouse_eq s d (by omega), in_eq, within_eq, h1, h2, h3, h4]
      · by_cases h3 : 1 ≤ a ∧ a ≤ 40
        · have h4 : ¬ (0 ≤ c ∧ c ≤ 20) := fun z => h ⟨h1, h2, h3, z⟩
          simp [spec_AddFloor.f, impl_AddFloor.f, spec_AddFloor.j0, impl_AddFloor.j0, ldGood_eq s d (by omega) (k + 1) (by omega), isHouse_eq s d (by omega), in_eq, within_eq, h1, h2, h3, h4]
        · simp [spec_AddFloor.f, impl_AddFloor.f, spec_AddFloor.j0, impl_AddFloor.j0, ldGood_eq s d (by omega) (k + 1) (by omega), isHouse_eq s d (by omega), in_eq, within_eq, h1, h2, h3]
    · simp [spec_AddFloor.f, impl_AddFloor.f, spec_AddFloor.j0, impl_AddFloor.j0, ldGood_eq s d (by omega) (k + 1) (by omega), isHouse_eq s d (by omega), h1]
namespace AB
def above (n : Int) : List Int → Nat → List Int
  | [], _ => []
  | x :: t, i => if x > n then (i : Int) :: above n t (i + 1) else above n t (i + 1)
theorem above_length (n : Int) (l : List Int) : ∀ i, (above n l i).length ≤ l.length := by
  induction l with
  | nil => intro i; simp [above]
  | cons x t ih =>
    intro i
    have := ih (i + 1)
    simp only [above]
    split
    · simp only [List.length_cons]; omega
    · simp only [List.length_cons]; omega
theorem impl_l (a : Int) (l : List Int) (hl : l.length ≤ 1000) (n : Nat) : ∀ (k i : Nat) (acc : List Int), i + n = l.length → n < k → acc.length ≤ i → impl_StairsAbove.l0 k a acc l (l.length : Int) (i : Int) = some (acc ++ above a (l.drop i) i, true) := by
  induction n with
  | zero =>
    intro k i acc hd hk ha
    obtain ⟨k, rfl⟩ : ∃ m, k = m + 1 := ⟨k - 1, by omega⟩
    simp only [impl_StairsAbove.l0]
    rw [if_neg (by omega), List.drop_of_length_le (by omega)]
    simp [above]
  | succ n ih =>
    intro k i acc hd hk ha
    obtain ⟨k, rfl⟩ : ∃ m, k = m + 1 := ⟨k - 1, by omega⟩
    have hi : i < l.length := by omega
    have ew : wrap64 ((i : Int) + 1) = ((i + 1 : Nat) : Int) := by rw [wr (by omega) (by omega)]; omega
    simp only [impl_StairsAbove.l0, ew, rd_nat l i hi]
    rw [if_pos (by omega), if_pos (by omega), if_pos (by omega), List.drop_eq_getElem_cons hi]
    simp only [above]
    by_cases c : l[i] > a
    · rw [if_pos c, if_pos c, if_pos (by omega), ih k (i + 1) _ (by omega) (by omega) (by simp only [List.length_append, List.length_singleton]; omega)]
      simp
    · rw [if_neg c, if_neg c, ih k (i + 1) _ (by omega) (by omega) (by omega)]
theorem same_l : ∀ (k : Nat) (a : Int) (acc l : List Int) (n i : Int), spec_StairsAbove.l0 k a acc l n i = impl_StairsAbove.l0 k a acc l n i := by
  intro k
  induction k with
  | zero => intros; rfl
  | succ k ih =>
    intro a acc l n i
    simp only [spec_StairsAbove.l0, impl_StairsAbove.l0, ih]
end AB
namespace LS
theorem idx_l (l : List Int) (hl : l.length ≤ 1000) (M : Int) (q : Nat) (hq : q < l.length) (hM : l[q] = M) (hb : ∀ j (hj : j < l.length), j < q → l[j] ≠ M) (n : Nat) : ∀ (k i : Nat), i + n = q → n < k → slices_Index_int_int.l0 k l M (l.length : Int) (i : Int) = some (q : Int) := by
  induction n with
  | zero =>
    intro k i hd hk
    obtain ⟨k, rfl⟩ : ∃ m, k = m + 1 := ⟨k - 1, by omega⟩
    obtain rfl : i = q := by omega
    simp only [slices_Index_int_int.l0, rd_nat l i hq]
    rw [if_pos (by omega), if_pos (by omega), if_pos (by omega), if_pos hM.symm]
  | succ n ih =>
    intro k i hd hk
    obtain ⟨k, rfl⟩ : ∃ m, k = m + 1 := ⟨k - 1, by omega⟩
    have hi : i < l.length := by omega
    have ew : wrap64 ((i : Int) + 1) = ((i + 1 : Nat) : Int) := by rw [wr (by omega) (by omega)]; omega
    simp only [slices_Index_int_int.l0, ew, rd_nat l i hi]
    rw [if_pos (by omega), if_pos (by omega), if_pos (by omega), if_neg (fun z => hb i hi (by omega) z.symm), ih k (i + 1) (by omega) (by omega)]
theorem spec_l (l d : List Int) (hl : l.length ≤ 1000) (q : Nat) (hq : q < l.length) (hM : ∀ j (hj : j < l.length), l[j] ≤ l[q]) (hb : ∀ j (hj : j < l.length), j < q → l[j] < l[q]) (n : Nat) : ∀ (k i b : Nat) (hbl : b < l.length), i + n = l.length → n < k → b ≤ i → (∀ j (hj : j < l.length), j < i → l[j] ≤ l[b]) → (∀ j (hj : j < l.length), j < b → l[j] < l[b]) → (b = 0 ∨ b < i) → spec_LongestStairs.l0 k (b : Int) l (l.length : Int) (i : Int) l d = some ((q : Int), l[q], true) := by
  induction n with
  | zero =>
    intro k i b hbl hd hk hbi h1 h2 h3
    obtain ⟨k, rfl⟩ : ∃ m, k = m + 1 := ⟨k - 1, by omega⟩
    have e : b = q := by
      rcases Nat.lt_trichotomy b q with c | c | c
      · have := hb b hbl c
        have := h1 q hq (by omega)
        omega
      · exact c
      · have := h2 q hq c
        have := hM b hbl
        omega
    subst e
    simp only [spec_LongestStairs.l0, rd_nat l b hbl]
    rw [if_neg (by omega), if_pos (by omega), if_pos (by omega)]
  | succ n ih =>
    intro k i b hbl hd hk hbi h1 h2 h3
    obtain ⟨k, rfl⟩ : ∃ m, k = m + 1 := ⟨k - 1, by omega⟩
    have hi : i < l.length := by omega
    have ew : wrap64 ((i : Int) + 1) = ((i + 1 : Nat) : Int) := by rw [wr (by omega) (by omega)]; omega
    simp only [spec_LongestStairs.l0, ew, rd_nat l i hi, rd_nat l b hbl]
    rw [if_pos (by omega), if_pos (by omega), if_pos (by omega), if_pos (by omega), if_pos (by omega)]
    by_cases c : l[i] > l[b]
    · rw [if_pos c]
      refine ih k (i + 1) i hi (by omega) (by omega) (by omega) (fun j hj hji => ?_) (fun j hj hji => ?_) (by omega)
      · rcases (show j < i ∨ j = i by omega) with z | z
        · have := h1 j hj z
          omega
        · subst z
          exact Int.le_refl _
      · have := h1 j hj hji
        omega
    · rw [if_neg c]
      refine ih k (i + 1) b hbl (by omega) (by omega) (by omega) (fun j hj hji => ?_) h2 (by omega)
      rcases (show j < i ∨ j = i by omega) with z | z
      · exact h1 j hj z
      · subst z
        omega
theorem first_of (l : List Int) (M : Int) (h : M ∈ l) : ∃ (q : Nat) (hq : q < l.length), l[q] = M ∧ ∀ j (hj : j < l.length), j < q → l[j] ≠ M := by
  induction l with
  | nil => simp at h
  | cons x t ih =>
    by_cases c : x = M
    · exact ⟨0, by simp, c, fun j hj hj0 => by omega⟩
    · have ht : M ∈ t := by
        rcases List.mem_cons.mp h with e | e
        · exact absurd e.symm c
        · exact e
      obtain ⟨q, hq, e, hb⟩ := ih ht
      refine ⟨q + 1, by simp only [List.length_cons]; omega, by simpa using e, fun j hj hjq => ?_⟩
      cases j with
      | zero => simpa using c
      | succ j => simpa using hb j (by simpa using hj) (by omega)
end LS
def aboveV (s d : List Int) (a : Int) : List Int × Bool := if hsB s d = true ∧ 0 ≤ a ∧ a ≤ 40 then (AB.above a s 0, true) else ([], false)
theorem above_both (s d : List Int) (a : Int) (hd : d.length ≤ 9223372036854775807) (k : Nat) (hk : 2000000 < k) : spec_StairsAbove.f k s d a = some (aboveV s d a) ∧ impl_StairsAbove.f k s d a = some (aboveV s d a) := by
  obtain ⟨k, rfl⟩ : ∃ m, k = m + 1 := ⟨k - 1, by omega⟩
  by_cases h : hsB s d = true
  · by_cases ha : 0 ≤ a ∧ a ≤ 40
    · have ev : aboveV s d a = (AB.above a s 0, true) := by unfold aboveV; rw [if_pos ⟨h, ha⟩]
      rw [ev]
      have f := hsB_facts h
      have e := AB.impl_l a s (by omega) s.length k 0 [] (by omega) (by omega) (by simp)
      simp only [List.nil_append, Int.natCast_zero, List.drop_zero] at e
      have e2 : impl_StairsAbove.l0 k a [] s (s.length : Int) 0 = some (AB.above a s 0, true) := e
      simp [spec_StairsAbove.f, impl_StairsAbove.f, spec_StairsAbove.j0, impl_StairsAbove.j0, in_eq, within_eq, ldGood_eq s d (by omega) (k + 1) (by omega), isHouse_eq s d (by omega), h, ha, AB.same_l, e2]
    · have ev : aboveV s d a = ([], false) := by unfold aboveV; rw [if_neg (fun z => ha z.2)]
      rw [ev]
      simp [spec_StairsAbove.f, impl_StairsAbove.f, spec_StairsAbove.j0, impl_StairsAbove.j0, in_eq, within_eq, ldGood_eq s d (by omega) (k + 1) (by omega), isHouse_eq s d (by omega), h, ha]
  · have ev : aboveV s d a = ([], false) := by unfold aboveV; rw [if_neg (fun z => h z.1)]
    rw [ev]
    simp [spec_StairsAbove.f, impl_StairsAbove.f, spec_StairsAbove.j0, impl_StairsAbove.j0, ldGood_eq s d (by omega) (k + 1) (by omega), isHouse_eq s d (by omega), h]
theorem long_both (s d : List Int) (hd : d.length ≤ 9223372036854775807) (k : Nat) (hk : 2000000 < k) :
    (hsB s d = true ∧ ∃ (q : Nat) (hq : q < s.length), spec_LongestStairs.f k s d = some ((q : Int), s[q], true) ∧ impl_LongestStairs.f k s d = some ((q : Int), s[q], true) ∧ (∀ j (hj : j < s.length), s[j] ≤ s[q]) ∧ ∀ j (hj : j < s.length), j < q → s[j] < s[q])
    ∨ (¬ hsB s d = true ∧ spec_LongestStairs.f k s d = some (0, 0, false) ∧ impl_LongestStairs.f k s d = some (0, 0, false)) := by
  by_cases h : hsB s d = true
  · refine .inl ⟨h, ?_⟩
    have f := hsB_facts h
    have hl0 : 0 < s.length := by omega
    have hM := mxl_val s (by omega)
    obtain ⟨q, hq, e, hb⟩ := LS.first_of s (mxl (s.drop 1) (rd s 0)) hM.1
    have hge : ∀ j (hj : j < s.length), s[j] ≤ s[q] := fun j hj => by rw [e]; exact hM.2 _ (List.getElem_mem hj)
    have hlt : ∀ j (hj : j < s.length), j < q → s[j] < s[q] := fun j hj hjq => by
      have := hb j hj hjq
      have := hge j hj
      rw [← e] at *
      omega
    have e1 := LS.spec_l s d (by omega) q hq hge hlt s.length k 0 0 (by omega) (by omega) (by omega) (by omega) (fun j hj h0 => by omega) (fun j hj h0 => by omega) (.inl rfl)
    have e2 := LS.idx_l s (by omega) (mxl (s.drop 1) (rd s 0)) q hq e hb q k 0 (by omega) (by omega)
    have e3 : slices_Max_int_int.f s = some (mxl (s.drop 1) (rd s 0)) := by
      unfold slices_Max_int_int.f
      rw [if_pos ⟨hl0, by omega⟩]
    refine ⟨q, hq, ?_, ?_, hge, hlt⟩
    · simp only [spec_LongestStairs.f, ldGood_eq s d (by omega) k (by omega), Option.bind_some, if_pos h]
      exact e1
    · simp only [impl_LongestStairs.f, slices_Index_int_int.f, isHouse_eq s d (by omega), Option.bind_some, if_pos h, e3]
      have e4 : slices_Index_int_int.l0 k s (mxl (s.drop 1) (rd s 0)) (s.length : Int) 0 = some (q : Int) := e2
      rw [e4, e]
      rfl
  · refine .inr ⟨h, ?_⟩
    simp only [spec_LongestStairs.f, impl_LongestStairs.f, ldGood_eq s d (by omega) k (by omega), isHouse_eq s d (by omega), Option.bind_some, if_neg h, and_self]
theorem above_mem (n : Int) : ∀ (l : List Int) (i : Nat) (x : Int), x ∈ AB.above n l i ↔ ∃ (j : Nat) (hj : j < l.length), x = ((i + j : Nat) : Int) ∧ l[j] > n
  | [], i, x => by simp [AB.above]
  | y :: t, i, x => by
    have ih := above_mem n t (i + 1) x
    have key : (∃ (j : Nat) (hj : j < (y :: t).length), x = ((i + j : Nat) : Int) ∧ (y :: t)[j] > n) ↔ (x = (i : Int) ∧ y > n) ∨ ∃ (j : Nat) (hj : j < t.length), x = ((i + 1 + j : Nat) : Int) ∧ t[j] > n := by
      constructor
      · rintro ⟨j, hj, e, g⟩
        cases j with
        | zero => exact .inl ⟨by simpa using e, by simpa using g⟩
        | succ j => exact .inr ⟨j, by simpa using hj, by rw [e]; congr 1; omega, by simpa using g⟩
      · rintro (⟨e, g⟩ | ⟨j, hj, e, g⟩)
        · exact ⟨0, by simp, by simpa using e, by simpa using g⟩
        · exact ⟨j + 1, by simpa using hj, by rw [e]; congr 1; omega, by simpa using g⟩
    rw [key]
    simp only [AB.above]
    by_cases c : y > n
    · rw [if_pos c, List.mem_cons, ih]
      constructor
      · rintro (e | e)
        · exact .inl ⟨e, c⟩
        · exact .inr e
      · rintro (e | e)
        · exact .inl e.1
        · exact .inr e
    · rw [if_neg c, ih]
      constructor
      · exact .inr
      · rintro (e | e)
        · exact absurd e.2 c
        · exact e
theorem above_sorted (n : Int) : ∀ (l : List Int) (i : Nat), (AB.above n l i).Pairwise (· < ·)
  | [], i => List.Pairwise.nil
  | y :: t, i => by
    simp only [AB.above]
    split
    · refine List.Pairwise.cons (fun x hx => ?_) (above_sorted n t (i + 1))
      obtain ⟨j, hj, e, _⟩ := (above_mem n t (i + 1) x).1 hx
      omega
    · exact above_sorted n t (i + 1)
theorem rdn (l : List Int) (i : Nat) (h : i < l.length) : rd l (i : Int) = l[i] := by simp [rd, List.getD, h]
theorem wSame_l (l : List Int) (hl : l.length ≤ 1000) : ∀ (n i k : Nat), i + n = l.length → n < k → laws_wSame.l0 k l l (l.length : Int) (i : Int) = some true
  | 0, i, k, hi, hk => by
    obtain ⟨k, rfl⟩ : ∃ m, k = m + 1 := ⟨k - 1, by omega⟩
    simp only [laws_wSame.l0]
    rw [if_neg (by omega)]
  | n + 1, i, k, hi, hk => by
    obtain ⟨k, rfl⟩ : ∃ m, k = m + 1 := ⟨k - 1, by omega⟩
    have ew : wrap64 ((i : Int) + 1) = ((i + 1 : Nat) : Int) := by unfold wrap64; omega
    simp only [laws_wSame.l0, ew]
    rw [if_pos (by omega), if_pos (by omega), if_pos (by omega), if_pos (by omega), if_pos trivial, wSame_l l hl n (i + 1) k (by omega) (by omega)]
theorem wSame_val (l : List Int) (hl : l.length ≤ 1000) (k : Nat) (hk : 1001 ≤ k) : laws_wSame.f k l l = some true := by
  unfold laws_wSame.f
  rw [if_pos rfl]
  exact wSame_l l hl l.length 0 k (by omega) (by omega)
theorem wHas_l (l : List Int) (hl : l.length ≤ 1000) (x : Int) : ∀ (n i k : Nat), i + n = l.length → n < k → laws_wHas.l0 k x l (l.length : Int) (i : Int) = some (decide (x ∈ l.drop i))
  | 0, i, k, hi, hk => by
    obtain ⟨k, rfl⟩ : ∃ m, k = m + 1 := ⟨k - 1, by omega⟩
    simp only [laws_wHas.l0]
    rw [if_neg (by omega), List.drop_of_length_le (by omega)]
    simp
  | n + 1, i, k, hi, hk => by
    obtain ⟨k, rfl⟩ : ∃ m, k = m + 1 := ⟨k - 1, by omega⟩
    have ew : wrap64 ((i : Int) + 1) = ((i + 1 : Nat) : Int) := by unfold wrap64; omega
    have h : i < l.length := by omega
    simp only [laws_wHas.l0, ew, rdn l i h]
    rw [if_pos (by omega), if_pos (by omega), if_pos (by omega), wHas_l l hl x n (i + 1) k (by omega) (by omega), List.drop_eq_getElem_cons h]
    by_cases e : l[i] = x
    · rw [if_pos e]; simp [e]
    · rw [if_neg e]
      congr 1
      rw [decide_eq_decide, List.mem_cons]
      exact ⟨.inr, fun h => h.elim (fun h => absurd h.symm e) id⟩
theorem wHas_val (l : List Int) (hl : l.length ≤ 1000) (x : Int) (k : Nat) (hk : 1001 ≤ k) : laws_wHas.f k l x = some (decide (x ∈ l)) := by
  have := wHas_l l hl x l.length 0 k (by omega) (by omega)
  simpa [laws_wHas.f] using this
theorem wRises_l (l : List Int) (hl : l.length ≤ 1000) (hs : l.Pairwise (· < ·)) : ∀ (n i k : Nat), i + n = l.length + 1 → n < k → 1 ≤ i → laws_wRises.l0 k l (i : Int) = some true
  | 0, i, k, hi, hk, h1 => by
    obtain ⟨k, rfl⟩ : ∃ m, k = m + 1 := ⟨k - 1, by omega⟩
    simp only [laws_wRises.l0]
    rw [if_neg (by omega)]
  | n + 1, i, k, hi, hk, h1 => by
    obtain ⟨k, rfl⟩ : ∃ m, k = m + 1 := ⟨k - 1, by omega⟩
    simp only [laws_wRises.l0]
    by_cases c : i < l.length
    · have ew : wrap64 ((i : Int) + 1) = ((i + 1 : Nat) : Int) := by unfold wrap64; omega
      have em : wrap64 ((i : Int) - 1) = ((i - 1 : Nat) : Int) := by unfold wrap64; omega
      have hlt := List.pairwise_iff_getElem.1 hs (i - 1) i (by omega) c (by omega)
      rw [ew, em, if_pos (by omega), if_pos (by omega), if_pos (by omega), if_pos (by omega), rdn l (i - 1) (by omega), rdn l i c, if_neg (by omega), wRises_l l hl hs n (i + 1) k (by omega) (by omega) (by omega)]
    · rw [if_neg (by omega)]
theorem wRises_val (l : List Int) (hl : l.length ≤ 1000) (hs : l.Pairwise (· < ·)) (k : Nat) (hk : 1002 ≤ k) : laws_wRises.f k l = some true := by
  unfold laws_wRises.f
  exact wRises_l l hl hs l.length 1 k (by omega) (by omega) (by omega)
theorem wsum_l (l : List Int) (hl : Small l) (n : Nat) : ∀ (k i : Nat) (a : Int), i + n = l.length → n < k → 0 ≤ a → a ≤ 40 * i → laws_wSum.l0 k a l (l.length : Int) (i : Int) = some (a + isum (l.drop i)) := by
  have h20 := hl.1
  induction n with
  | zero =>
    intro k i a hd hk h0 h1
    obtain ⟨k, rfl⟩ : ∃ m, k = m + 1 := ⟨k - 1, by omega⟩
    simp only [laws_wSum.l0]
    rw [if_neg (by omega), List.drop_of_length_le (by omega)]
    simp [isum]
  | succ n ih =>
    intro k i a hd hk h0 h1
    obtain ⟨k, rfl⟩ : ∃ m, k = m + 1 := ⟨k - 1, by omega⟩
    have hi : i < l.length := by omega
    have hb := hl.2 l[i] (List.getElem_mem hi)
    have ew : wrap64 ((i : Int) + 1) = ((i + 1 : Nat) : Int) := by rw [wr (by omega) (by omega)]; omega
    have ea : wrap64 (a + l[i]) = a + l[i] := wr (by omega) (by omega)
    simp only [laws_wSum.l0, ew, rd_nat l i hi, ea]
    rw [if_pos (by omega), if_pos (by omega), if_pos (by omega), ih k (i + 1) _ (by omega) (by omega) (by omega) (by omega), List.drop_eq_getElem_cons hi]
    simp only [isum]
    congr 1
    omega
theorem wsum_val (l : List Int) (hl : Small l) (k : Nat) (hk : 21 ≤ k) : laws_wSum.f k l = some (isum l) := by
  have h20 := hl.1
  have := wsum_l l hl l.length k 0 0 (by omega) (by omega) (by omega) (by omega)
  simpa [laws_wSum.f] using this
theorem wHouse_val (s d : List Int) (hs : s.length ≤ 1000) (hd : d.length ≤ 1000) (k : Nat) (hk : 1001 ≤ k) : laws_wHouse.f k s d s d = some true := by
  simp only [laws_wHouse.f, wSame_val s hs k hk, wSame_val d hd k hk, Option.bind_some, if_true]
theorem landI_len (most at_ n : Int) (hm : 1 ≤ most) : ∀ (d : Nat) (st : Int), n - st ≤ d → ((landI most at_ n d st).length : Int) = if st < n then (n - st - 1) / most + 1 else 0
  | 0, st, h => by rw [if_neg (by omega)]; rfl
  | d + 1, st, h => by
    simp only [landI]
    by_cases c : st < n
    · rw [if_pos c, if_pos c, List.length_cons]
      have ih := landI_len most at_ n hm d (st + most) (by omega)
      by_cases c2 : st + most < n
      · rw [if_pos c2] at ih
        have e : n - st - 1 = (n - (st + most) - 1) + most * 1 := by omega
        rw [e, Int.add_mul_ediv_left _ _ (by omega)]
        omega
      · rw [if_neg c2] at ih
        rw [Int.ediv_eq_zero_of_lt (by omega) (by omega)]
        omega
    · rw [if_neg c, if_neg c]; rfl
theorem landI_cnt (most at_ n : Int) (hm : 1 ≤ most) (hn : 1 ≤ n ∧ n ≤ 40) : ((landI most at_ n 60 most).length : Int) = Int.tdiv (n - 1) most := by
  rw [landI_len most at_ n hm 60 most (by omega), Int.tdiv_eq_ediv_of_nonneg (by omega)]
  by_cases c : most < n
  · rw [if_pos c]
    have e : n - 1 = (n - most - 1) + most * 1 := by omega
    rw [e, Int.add_mul_ediv_left _ _ (by omega)]
  · rw [if_neg c, Int.ediv_eq_zero_of_lt (by omega) (by omega)]
theorem landI_mem (most at_ n : Int) (hm : 1 ≤ most) (h0 : 0 ≤ at_ ∧ at_ ≤ 1000) (hn : n ≤ 40) : ∀ (d : Nat) (st : Int), 1 ≤ st → ∀ x ∈ landI most at_ n d st, at_ + st ≤ x ∧ x < at_ + n
  | 0, st, h, x, hx => by simp [landI] at hx
  | d + 1, st, h, x, hx => by
    simp only [landI] at hx
    by_cases c : st < n
    · rw [if_pos c] at hx
      rcases List.mem_cons.1 hx with e | e
      · rw [wr (by omega) (by omega)] at e; omega
      · have := landI_mem most at_ n hm h0 hn d (st + most) (by omega) x e; omega
    · rw [if_neg c] at hx; cases hx
theorem landI_sorted (most at_ n : Int) (hm : 1 ≤ most) (h0 : 0 ≤ at_ ∧ at_ ≤ 1000) (hn : n ≤ 40) : ∀ (d : Nat) (st : Int), 1 ≤ st → (landI most at_ n d st).Pairwise (· < ·)
  | 0, st, h => List.Pairwise.nil
  | d + 1, st, h => by
    simp only [landI]
    by_cases c : st < n
    · rw [if_pos c]
      refine List.Pairwise.cons (fun x hx => ?_) (landI_sorted most at_ n hm h0 hn d (st + most) (by omega))
      have := landI_mem most at_ n hm h0 hn d (st + most) (by omega) x hx
      rw [wr (by omega) (by omega)]
      omega
    · rw [if_neg c]; exact List.Pairwise.nil
theorem landO_mem (most : Int) (hm : 1 ≤ most) : ∀ (s : List Int) (at_ : Int), (∀ x ∈ s, 1 ≤ x ∧ x ≤ 40) → 0 ≤ at_ → at_ + 40 * s.length ≤ 1000 → ∀ x ∈ landO most s at_, at_ < x ∧ x < at_ + isum s
  | [], at_, hs, h0, h1, x, hx => by simp [landO] at hx
  | n :: t, at_, hs, h0, h1, x, hx => by
    have hn := hs n (by simp)
    simp only [List.length_cons] at h1
    have ht : ∀ x ∈ t, 1 ≤ x ∧ x ≤ 40 := fun x hx => hs x (by simp [hx])
    have hb := isum_bd t (fun x hx => by have := ht x hx; omega)
    simp only [landO, List.mem_append] at hx
    simp only [isum]
    rcases hx with hx | hx
    · have := landI_mem most at_ n hm ⟨h0, by omega⟩ (by omega) 60 most (by omega) x hx
      omega
    · have := landO_mem most hm t (at_ + n) ht (by omega) (by omega) x hx
      omega
theorem landO_sorted (most : Int) (hm : 1 ≤ most) : ∀ (s : List Int) (at_ : Int), (∀ x ∈ s, 1 ≤ x ∧ x ≤ 40) → 0 ≤ at_ → at_ + 40 * s.length ≤ 1000 → (landO most s at_).Pairwise (· < ·)
  | [], at_, hs, h0, h1 => List.Pairwise.nil
  | n :: t, at_, hs, h0, h1 => by
    have hn := hs n (by simp)
    simp only [List.length_cons] at h1
    have ht : ∀ x ∈ t, 1 ≤ x ∧ x ≤ 40 := fun x hx => hs x (by simp [hx])
    simp only [landO]
    rw [List.pairwise_append]
    refine ⟨landI_sorted most at_ n hm ⟨h0, by omega⟩ (by omega) 60 most (by omega), landO_sorted most hm t (at_ + n) ht (by omega) (by omega), fun x hx y hy => ?_⟩
    have := landI_mem most at_ n hm ⟨h0, by omega⟩ (by omega) 60 most (by omega) x hx
    have := landO_mem most hm t (at_ + n) ht (by omega) (by omega) y hy
    omega
theorem landO_app (most : Int) : ∀ (a b : List Int) (at_ : Int), landO most (a ++ b) at_ = landO most a at_ ++ landO most b (at_ + isum a)
  | [], b, at_ => by simp [landO, isum]
  | n :: t, b, at_ => by
    simp only [List.cons_append, landO, isum, landO_app most t b (at_ + n), List.append_assoc]
    rw [show at_ + n + isum t = at_ + (n + isum t) by omega]
def inn (at_ n most : Int) : List Int → Int → Option Int
  | [], last => some last
  | x :: t, last => if x > at_ ∧ x < at_ + n then (if x - last > most then none else inn at_ n most t x) else inn at_ n most t last
theorem inn_app (at_ n most : Int) : ∀ (a b : List Int) (last : Int), inn at_ n most (a ++ b) last = (inn at_ n most a last).bind fun z => inn at_ n most b z
  | [], b, last => rfl
  | x :: t, b, last => by
    simp only [List.cons_append, inn]
    by_cases c : x > at_ ∧ x < at_ + n
    · rw [if_pos c, if_pos c]
      by_cases e : x - last > most
      · rw [if_pos e, if_pos e]; rfl
      · rw [if_neg e, if_neg e, inn_app at_ n most t b x]
    · rw [if_neg c, if_neg c, inn_app at_ n most t b last]
theorem inn_out (at_ n most : Int) : ∀ (a : List Int) (last : Int), (∀ x ∈ a, ¬ (x > at_ ∧ x < at_ + n)) → inn at_ n most a last = some last
  | [], last, _ => rfl
  | x :: t, last, h => by
    simp only [inn]
    rw [if_neg (h x (by simp)), inn_out at_ n most t last (fun y hy => h y (by simp [hy]))]
theorem inn_in (at_ n most : Int) (hm : 1 ≤ most) (h0 : 0 ≤ at_ ∧ at_ ≤ 1000) (hn : n ≤ 40) : ∀ (d : Nat) (st : Int), 1 ≤ st → n - st ≤ d → ∃ z, inn at_ n most (landI most at_ n d st) (at_ + st - most) = some z ∧ at_ + n - z ≤ most ∧ at_ + st - most ≤ z ∧ (z ≤ at_ + n ∨ z = at_ + st - most)
  | 0, st, h, hd => ⟨_, rfl, by omega, by omega, .inr rfl⟩
  | d + 1, st, h, hd => by
    simp only [landI]
    by_cases c : st < n
    · rw [if_pos c, wr (by omega) (by omega)]
      simp only [inn]
      rw [if_pos (by omega), if_neg (by omega)]
      obtain ⟨z, h1, h2, h3, h4⟩ := inn_in at_ n most hm h0 hn d (st + most) (by omega) (by omega)
      rw [show at_ + (st + most) - most = at_ + st by omega] at h1 h3 h4
      exact ⟨z, h1, h2, by omega, by omega⟩
    · rw [if_neg c]
      exact ⟨_, rfl, by omega, by omega, .inr rfl⟩
section Hx6
theorem fin_h (t : ByteArray) (k : Nat) (hk : 100 ≤ k) (hl : (phV t.data.toList).2.1.length ≤ 9223372036854775807) : (if (phV t.data.toList).2.2 = true then ((impl_HouseText.f k (phV t.data.toList).1 (phV t.data.toList).2.1).bind fun bt => (if bt.2 = true then (some (bt.1.toList == t.toList)) else (some false))) else (some true)) = some true := by
  by_cases c : (phV t.data.toList).2.2 = true
  · obtain ⟨g, e⟩ := phV_back t c
    rw [if_pos c, houseText_impl _ _ hl k hk]
    unfold hOut
    rw [if_pos g]
    simp only [Option.bind_some, if_true]
    rw [e]
    simp
  · rw [if_neg c]
theorem l2_true (n : Int) (t : ByteArray) (v : List Int) (hv : v.length ≤ 1000) (hl : (phV t.data.toList).2.1.length ≤ 9223372036854775807) : ∀ (d i k : Nat), i + d = v.length → d + 3000 < k → laws_FnHousesBuiltOfAll.l2 k n t (AB.above n v 0) (phV t.data.toList).2.2 v (v.length : Int) (i : Int) (phV t.data.toList).1 (phV t.data.toList).2.1 = some true
  | 0, i, k, hi, hk => by
    obtain ⟨k, rfl⟩ : ∃ m, k = m + 1 := ⟨k - 1, by omega⟩
    simp only [laws_FnHousesBuiltOfAll.l2]
    rw [if_neg (by omega)]
    exact fin_h t k (by omega) hl
  | d + 1, i, k, hi, hk => by
    obtain ⟨k, rfl⟩ : ∃ m, k = m + 1 := ⟨k - 1, by omega⟩
    have ew : wrap64 ((i : Int) + 1) = ((i + 1 : Nat) : Int) := by unfold wrap64; omega
    have h : i < v.length := by omega
    have hal := AB.above_length n v 0
    have ih := l2_true n t v hv hl d (i + 1) k (by omega) (by omega)
    have e : decide ((i : Int) ∈ AB.above n v 0) = decide (v[i] > n) := by
      rw [decide_eq_decide, above_mem]
      constructor
      · rintro ⟨j, hj, e, g⟩
        obtain rfl : i = j := by omega
        exact g
      · intro g
        exact ⟨i, h, by omega, g⟩
    simp only [laws_FnHousesBuiltOfAll.l2, ew, rdn v i h, wHas_val _ (show (AB.above n v 0).length ≤ 1000 by omega) (i : Int) k (by omega), Option.bind_some, e, bne_self_eq_false, Bool.false_eq_true, if_false]
    rw [if_pos (by omega), if_pos (by omega), if_pos (by omega)]
    exact ih
theorem j9_true (n : Int) (t : ByteArray) (v0 v1 : List Int) (hl : (phV t.data.toList).2.1.length ≤ 9223372036854775807) (k : Nat) (hk : 6000 ≤ k) : laws_FnHousesBuiltOfAll.j9 k n t (aboveV v0 v1 n).1 (aboveV v0 v1 n).2 (phV t.data.toList).2.2 v0 v1 (phV t.data.toList).1 (phV t.data.toList).2.1 = some true := by
  obtain ⟨k, rfl⟩ : ∃ m, k = m + 1 := ⟨k - 1, by omega⟩
  simp only [laws_FnHousesBuiltOfAll.j9]
  by_cases c : hsB v0 v1 = true ∧ 0 ≤ n ∧ n ≤ 40
  · have f := hsB_facts c.1
    have hal := AB.above_length n v0 0
    have e : aboveV v0 v1 n = (AB.above n v0 0, true) := by unfold aboveV; rw [if_pos c]
    rw [e]
    simp only [if_true, wRises_val _ (show (AB.above n v0 0).length ≤ 1000 by omega) (above_sorted n v0 0) k (by omega), Option.bind_some]
    exact l2_true n t v0 (by omega) hl v0.length 0 k (by omega) (by omega)
  · have e : aboveV v0 v1 n = ([], false) := by unfold aboveV; rw [if_neg c]
    rw [e]
    simp only [Bool.false_eq_true, if_false]
    exact fin_h t k (by omega) hl
theorem hsB_of {s d : List Int} (h1 : 2 ≤ d.length ∧ d.length ≤ 12) (h2 : s.length + 1 = d.length) (h3 : ∀ x ∈ s, 1 ≤ x ∧ x ≤ 40) (h4 : ∀ x ∈ d, 0 ≤ x ∧ x ≤ 20) : hsB s d = true := by
  unfold hsB
  rw [decide_eq_true (by omega), decide_eq_true (by omega)]
  simp only [Bool.true_and, Bool.and_eq_true, List.all_eq_true, decide_eq_true_eq]
  exact ⟨h3, h4⟩
theorem add_house {s d : List Int} {a c : Int} (h : hsB s d = true ∧ ¬ (d.length : Int) = 12 ∧ (1 ≤ a ∧ a ≤ 40) ∧ 0 ≤ c ∧ c ≤ 20) : hsB (s ++ [a]) (d ++ [c]) = true := by
  obtain ⟨g1, g2, g3, g4⟩ := h
  obtain ⟨f1, f2, f3, f4, f5⟩ := hsB_facts g1
  refine hsB_of ?_ ?_ ?_ ?_
  · simp only [List.length_append, List.length_singleton]; omega
  · simp only [List.length_append, List.length_singleton]; omega
  · intro x hx
    rcases List.mem_append.1 hx with z | z
    · exact f4 x z
    · rw [List.mem_singleton.1 z]; exact g3
  · intro x hx
    rcases List.mem_append.1 hx with z | z
    · exact f5 x z
    · rw [List.mem_singleton.1 z]; exact g4
theorem j8_true (n : Int) (t : ByteArray) (u0 u1 v0 v1 : List Int) (a c : Int) (hl : (phV t.data.toList).2.1.length ≤ 9223372036854775807) (k : Nat) (hk : 2000010 ≤ k) :
    laws_FnHousesBuiltOfAll.j8 k n t (addV u0 u1 a c).2.2 (aboveV v0 v1 n).1 (aboveV v0 v1 n).2 (phV t.data.toList).2.2 false u0 u1 v0 v1 (addV u0 u1 a c).1 (addV u0 u1 a c).2.1 (phV t.data.toList).1 (phV t.data.toList).2.1 = some true := by
  obtain ⟨k, rfl⟩ : ∃ m, k = m + 1 := ⟨k - 1, by omega⟩
  have j9 := j9_true n t v0 v1 hl k (by omega)
  simp only [laws_FnHousesBuiltOfAll.j8, Bool.false_eq_true, if_false]
  by_cases h : hsB u0 u1 = true ∧ ¬ (u1.length : Int) = 12 ∧ (1 ≤ a ∧ a ≤ 40) ∧ 0 ≤ c ∧ c ≤ 20
  · have e : addV u0 u1 a c = (u0 ++ [a], u1 ++ [c], true) := by unfold addV; rw [if_pos h]
    obtain ⟨f1, f2, f3, f4, f5⟩ := hsB_facts h.1
    have g := add_house h
    have lu : (u1 ++ [c]).length ≤ 9223372036854775807 := by simp only [List.length_append, List.length_singleton]; omega
    have ed : dropV (u0 ++ [a]) (u1 ++ [c]) = (u0, u1, true) := by
      unfold dropV
      rw [if_pos ⟨g, by simp only [List.length_append, List.length_singleton]; omega⟩]
      have e1 : (u0 ++ [a]).take ((u0 ++ [a]).length - 1) = u0 := by simp
      have e2 : (u1 ++ [c]).take (u0 ++ [a]).length = u1 := by
        rw [show (u0 ++ [a]).length = u1.length by simp only [List.length_append, List.length_singleton]; omega]
        simp
      rw [e1, e2]
    rw [e]
    simp only [if_true, (drop_both _ _ lu k (by omega)).2, ed, isHouse_eq _ _ lu, g, Option.bind_some, wHouse_val u0 u1 (by omega) (by omega) k (by omega)]
    exact j9
  · have e : addV u0 u1 a c = ([], [], false) := by unfold addV; rw [if_neg h]
    rw [e]
    simp only [Bool.false_eq_true, if_false]
    exact j9
end Hx6
section Hx7
theorem addV_len (u0 u1 : List Int) (a c : Int) : (addV u0 u1 a c).1.length ≤ 1000 ∧ (addV u0 u1 a c).2.1.length ≤ 1000 := by
  unfold addV
  split
  · rename_i h
    have f := hsB_facts h.1
    simp only [List.length_append, List.length_singleton]
    omega
  · simp
theorem aboveV_len (s d : List Int) (n : Int) : (aboveV s d n).1.length ≤ 1000 := by
  unfold aboveV
  split
  · rename_i h
    have f := hsB_facts h.1
    have := AB.above_length n s 0
    simp only
    omega
  · simp
theorem phV_small (l : List UInt8) : (phV l).1.length ≤ 1000 ∧ (phV l).2.1.length ≤ 1000 := by
  unfold phV
  split
  · rename_i h
    have f := hsB_facts h
    simp only
    omega
  · simp
theorem j7_true (n : Int) (t : ByteArray) (ht : t.size ≤ 1048576) (u0 u1 v0 v1 : List Int) (a c : Int) (hu : u1.length ≤ 9223372036854775807) (hv : v1.length ≤ 9223372036854775807) (k : Nat) (hk : 2000100 ≤ k) :
    laws_FnHousesBuiltOfAll.j7 k a c n t u0 u1 v0 v1 = some true := by
  obtain ⟨k, rfl⟩ : ∃ m, k = m + 1 := ⟨k - 1, by omega⟩
  have l1 := addV_len u0 u1 a c
  have l2 := aboveV_len v0 v1 n
  have l3 := phV_small t.data.toList
  have j8 := j8_true n t u0 u1 v0 v1 a c (by omega) k (by omega)
  simp only [laws_FnHousesBuiltOfAll.j7, (add_both u0 u1 a c hu k (by omega)).1, (add_both u0 u1 a c hu k (by omega)).2, (above_both v0 v1 n hv k (by omega)).1, (above_both v0 v1 n hv k (by omega)).2, parseHouse_impl t ht k (by omega), parseHouse_spec t ht k (by omega), Option.bind_some, bne_self_eq_false, Bool.false_eq_true, if_false, wHouse_val _ _ l1.1 l1.2 k (by omega), wSame_val _ l2 k (by omega), wHouse_val _ _ l3.1 l3.2 k (by omega), if_true, Bool.not_true]
  exact j8
theorem j6_true (n : Int) (t : ByteArray) (ht : t.size ≤ 1048576) (s d u0 u1 v0 v1 : List Int) (a c : Int) (hu : u1.length ≤ 9223372036854775807) (hv : v1.length ≤ 9223372036854775807) (k : Nat) (hk : 2000101 ≤ k) :
    laws_FnHousesBuiltOfAll.j6 k a c n t (dropV s d).2.2 s d u0 u1 v0 v1 (dropV s d).1 (dropV s d).2.1 = some true := by
  obtain ⟨k, rfl⟩ : ∃ m, k = m + 1 := ⟨k - 1, by omega⟩
  have j7 := j7_true n t ht u0 u1 v0 v1 a c hu hv k (by omega)
  simp only [laws_FnHousesBuiltOfAll.j6]
  by_cases h : hsB s d = true ∧ ¬ (s.length : Int) = 1
  · have e : dropV s d = (s.take (s.length - 1), d.take s.length, true) := by unfold dropV; rw [if_pos h]
    obtain ⟨f1, f2, f3, f4, f5⟩ := hsB_facts h.1
    have h2 := h.2
    have ew : wrap64 ((s.length : Int) - 1) = ((s.length - 1 : Nat) : Int) := by unfold wrap64; omega
    have hs : hsB (s.take (s.length - 1)) (d.take s.length) = true := by
      refine hsB_of ?_ ?_ ?_ ?_
      · rw [List.length_take]; omega
      · rw [List.length_take, List.length_take]; omega
      · exact fun x hx => f4 x (List.mem_of_mem_take hx)
      · exact fun x hx => f5 x (List.mem_of_mem_take hx)
    have b1 := f4 s[s.length - 1] (List.getElem_mem (by omega))
    have b2 := f5 d[s.length] (List.getElem_mem (by omega))
    have lt : (d.take s.length).length ≤ 9223372036854775807 := by rw [List.length_take]; omega
    have ea : addV (s.take (s.length - 1)) (d.take s.length) s[s.length - 1] d[s.length] = (s, d, true) := by
      unfold addV
      rw [if_pos ⟨hs, by rw [List.length_take]; omega, b1, b2⟩]
      have e1 : s.take (s.length - 1) ++ [s[s.length - 1]] = s := by
        have := List.take_succ_eq_append_getElem (l := s) (i := s.length - 1) (by omega)
        rw [← this, show s.length - 1 + 1 = s.length by omega, List.take_length]
      have e2 : d.take s.length ++ [d[s.length]] = d := by
        have := List.take_succ_eq_append_getElem (l := d) (i := s.length) (by omega)
        rw [← this, f3, List.take_length]
      rw [e1, e2]
    rw [e]
    simp only [if_true, ew, rdn s (s.length - 1) (by omega), rdn d s.length (by omega), (add_both _ _ _ _ lt k (by omega)).2, ea, Option.bind_some, wHouse_val s d (by omega) (by omega) k (by omega)]
    rw [if_pos (by omega), if_pos (by omega), if_pos (by omega), if_pos (by omega)]
    exact j7
  · have e : dropV s d = ([], [], false) := by unfold dropV; rw [if_neg h]
    rw [e]
    simp only [Bool.false_eq_true, if_false]
    exact j7
theorem above_first (n : Int) : ∀ (l : List Int) (i q : Nat) (hq : q < l.length), l[q] > n → (∀ j (hj : j < l.length), j < q → ¬ l[j] > n) → ∃ r, AB.above n l i = ((i + q : Nat) : Int) :: r
  | [], i, q, hq, _, _ => by simp at hq
  | y :: t, i, 0, hq, h, _ => by
    simp only [AB.above]
    rw [if_pos (by simpa using h)]
    exact ⟨_, rfl⟩
  | y :: t, i, q + 1, hq, h, hb => by
    simp only [AB.above]
    rw [if_neg (by have := hb 0 (by simp) (by omega); simpa using this)]
    obtain ⟨r, e⟩ := above_first n t (i + 1) q (by simpa using hq) (by simpa using h) (fun j hj hjq => by have := hb (j + 1) (by simpa using hj) (by omega); simpa using this)
    exact ⟨r, by rw [e]; congr 2; omega⟩
theorem above_none (n : Int) : ∀ (l : List Int) (i : Nat), (∀ x ∈ l, ¬ x > n) → AB.above n l i = []
  | [], i, _ => rfl
  | y :: t, i, h => by
    simp only [AB.above]
    rw [if_neg (h y (by simp)), above_none n t (i + 1) (fun x hx => h x (by simp [hx]))]
theorem j5_house (n : Int) (t : ByteArray) (ht : t.size ≤ 1048576) (s d u0 u1 v0 v1 : List Int) (a c : Int) (hu : u1.length ≤ 9223372036854775807) (hv : v1.length ≤ 9223372036854775807) (h : hsB s d = true) (q : Nat) (hq : q < s.length) (hge : ∀ j (hj : j < s.length), s[j] ≤ s[q]) (hlt : ∀ j (hj : j < s.length), j < q → s[j] < s[q]) (k : Nat) (hk : 2000102 ≤ k) :
    laws_FnHousesBuiltOfAll.j5 k a c n t (q : Int) s[q] true (isum d) (hTxt s d) (dropV s d).2.2 s d u0 u1 v0 v1 (dropV s d).1 (dropV s d).2.1 = some true := by
  obtain ⟨k, rfl⟩ : ∃ m, k = m + 1 := ⟨k - 1, by omega⟩
  have j6 := j6_true n t ht s d u0 u1 v0 v1 a c hu hv k (by omega)
  obtain ⟨f1, f2, f3, f4, f5⟩ := hsB_facts h
  have b := f4 s[q] (List.getElem_mem hq)
  have ew : wrap64 (s[q] - 1) = s[q] - 1 := wr (by omega) (by omega)
  have ld : d.length ≤ 9223372036854775807 := by omega
  have e1 : aboveV s d (s[q] - 1) = (AB.above (s[q] - 1) s 0, true) := by unfold aboveV; rw [if_pos ⟨h, by omega, by omega⟩]
  have e2 : aboveV s d s[q] = ([], true) := by
    unfold aboveV
    rw [if_pos ⟨h, by omega, by omega⟩, above_none]
    intro x hx
    obtain ⟨j, hj, rfl⟩ := List.mem_iff_getElem.1 hx
    have := hge j hj
    omega
  obtain ⟨r, er⟩ := above_first (s[q] - 1) s 0 q hq (by omega) (fun j hj hjq => by have := hlt j hj hjq; omega)
  have er0 : rd (((0 + q : Nat) : Int) :: r) 0 = (q : Int) := by simp [rd, List.getD]
  simp only [laws_FnHousesBuiltOfAll.j5, if_true, ew, parseHouse_impl _ (hTxt_size h) k (by omega), phV_text h, (above_both s d _ ld k (by omega)).2, e1, e2, er, er0, Option.bind_some, wsum_val d (small_d h) k (by omega), rdn s q hq, wHouse_val s d (by omega) (by omega) k (by omega), List.length_nil, List.length_cons]
  rw [if_pos (by omega), if_pos (by omega), if_neg (by omega), if_pos (by omega), if_pos (by omega)]
  exact j6
theorem j5_none (n : Int) (t : ByteArray) (ht : t.size ≤ 1048576) (s d u0 u1 v0 v1 : List Int) (a c : Int) (hu : u1.length ≤ 9223372036854775807) (hv : v1.length ≤ 9223372036854775807) (x y z : Int) (tx : ByteArray) (k : Nat) (hk : 2000102 ≤ k) :
    laws_FnHousesBuiltOfAll.j5 k a c n t x y false z tx (dropV s d).2.2 s d u0 u1 v0 v1 (dropV s d).1 (dropV s d).2.1 = some true := by
  obtain ⟨k, rfl⟩ : ∃ m, k = m + 1 := ⟨k - 1, by omega⟩
  have j6 := j6_true n t ht s d u0 u1 v0 v1 a c hu hv k (by omega)
  simp only [laws_FnHousesBuiltOfAll.j5, Bool.false_eq_true, if_false]
  exact j6
end Hx7
section Hx8
variable (most a c n : Int) (t : ByteArray) (few x25 x26 x31 : Int) (x27 x40 : Bool) (x35 : ByteArray) (s d u0 u1 v0 v1 p0 p1 : List Int)
theorem l1_to (L : List Int) (hL : L.length ≤ 1000) (hb : ∀ x ∈ L, 0 ≤ x ∧ x ≤ 2000) (at_ m need i : Int) (hm : 1 ≤ most ∧ most ≤ 40) (ha : 0 ≤ at_ ∧ at_ ≤ 1000) (hn : 1 ≤ m ∧ m ≤ 40) (z : Int) (hz : 0 ≤ z ∧ z ≤ 2000) (he : at_ + m - z ≤ most) :
    ∀ (dd j k : Nat) (last : Int), j + dd = L.length → 2 * dd + 1 ≤ k → 0 ≤ last ∧ last ≤ 2000 → inn at_ m most (L.drop j) last = some z →
    laws_FnHousesBuiltOfAll.l1 k most a c n t L few x25 x26 x27 x31 x35 x40 at_ need m last s (s.length : Int) i L (L.length : Int) (j : Int) s d u0 u1 v0 v1 p0 p1 =
    laws_FnHousesBuiltOfAll.l0 (k - (2 * dd + 1)) most a c n t L few x25 x26 x27 x31 x35 x40 (at_ + m) (wrap64 (need + wrap64 (Int.tdiv (m - 1) most))) s (s.length : Int) (wrap64 (i + 1)) s d u0 u1 v0 v1 p0 p1
  | 0, j, k, last, hj, hk, hl, hi => by
    obtain ⟨k, rfl⟩ : ∃ m, k = m + 1 := ⟨k - 1, by omega⟩
    rw [List.drop_of_length_le (by omega)] at hi
    simp only [inn] at hi
    obtain rfl := Option.some.inj hi
    simp only [laws_FnHousesBuiltOfAll.l1]
    have e1 : wrap64 (at_ + m) = at_ + m := wr (by omega) (by omega)
    have e2 : wrap64 (at_ + m - last) = at_ + m - last := wr (by omega) (by omega)
    have e3 : wrap64 (m - 1) = m - 1 := wr (by omega) (by omega)
    rw [if_neg (by omega), e1, e2, if_neg (by omega), if_neg (by omega), e3]
    rfl
  | dd + 1, j, k, last, hj, hk, hl, hi => by
    obtain ⟨k, rfl⟩ : ∃ m, k = m + 1 := ⟨k - 1, by omega⟩
    obtain ⟨k, rfl⟩ : ∃ m, k = m + 1 := ⟨k - 1, by omega⟩
    have h : j < L.length := by omega
    have g1 : (j : Int) < (L.length : Int) := Int.ofNat_lt.2 h
    have g2 : 0 ≤ (j : Int) := Int.natCast_nonneg j
    have hx := hb L[j] (List.getElem_mem h)
    have ew : wrap64 ((j : Int) + 1) = ((j + 1 : Nat) : Int) := by unfold wrap64; omega
    have e1 : wrap64 (at_ + m) = at_ + m := wr (by omega) (by omega)
    have e2 : wrap64 (L[j] - last) = L[j] - last := wr (by omega) (by omega)
    rw [List.drop_eq_getElem_cons h] at hi
    simp only [inn] at hi
    have ek : k + 1 + 1 - (2 * (dd + 1) + 1) = k - (2 * dd + 1) := by omega
    rw [ek]
    simp only [laws_FnHousesBuiltOfAll.l1, laws_FnHousesBuiltOfAll.j4, rdn L j h, e1, e2, ew]
    rw [if_pos g1, if_pos g2, if_pos g1]
    clear ew e1 e2 ek
    by_cases c1 : L[j] > at_
    · rw [if_pos c1]
      by_cases c2 : L[j] < at_ + m
      · rw [if_pos ⟨c1, c2⟩] at hi
        by_cases c3 : L[j] - last > most
        · rw [if_pos c3] at hi; cases hi
        · rw [if_neg c3] at hi
          rw [if_pos (decide_eq_true c2), if_neg c3]
          exact l1_to L hL hb at_ m need i hm ha hn z hz he dd (j + 1) k L[j] (by omega) (by omega) (by omega) hi
      · rw [if_neg (fun z => c2 z.2)] at hi
        rw [if_neg (by simpa using c2)]
        exact l1_to L hL hb at_ m need i hm ha hn z hz he dd (j + 1) k last (by omega) (by omega) hl hi
    · rw [if_neg (fun z => c1 z.1)] at hi
      rw [if_neg c1, if_neg (by simp)]
      exact l1_to L hL hb at_ m need i hm ha hn z hz he dd (j + 1) k last (by omega) (by omega) hl hi
theorem inn_all (hm : 1 ≤ most ∧ most ≤ 40) (hs : ∀ x ∈ s, 1 ≤ x ∧ x ≤ 40) (hl : s.length ≤ 12) (i : Nat) (hi : i < s.length) :
    ∃ z, inn (isum (s.take i)) s[i] most (landO most s 0) (isum (s.take i)) = some z ∧ isum (s.take i) + s[i] - z ≤ most ∧ 0 ≤ z ∧ z ≤ 2000 := by
  have hn := hs s[i] (List.getElem_mem hi)
  have b1 := isum_bd (s.take i) (fun x hx => by have := hs x (List.mem_of_mem_take hx); omega)
  have l1 : (s.take i).length ≤ 12 := by rw [List.length_take]; omega
  have e : landO most s 0 = landO most (s.take i) 0 ++ (landI most (isum (s.take i)) s[i] 60 most ++ landO most (s.drop (i + 1)) (isum (s.take i) + s[i])) := by
    have e0 : s = s.take i ++ (s[i] :: s.drop (i + 1)) := by rw [← List.drop_eq_getElem_cons hi, List.take_append_drop]
    have e1 := landO_app most (s.take i) (s[i] :: s.drop (i + 1)) 0
    rw [← e0, Int.zero_add] at e1
    rw [e1]
    rfl
  rw [e, inn_app, inn_out _ _ _ _ _ (fun x hx => by
    have := landO_mem most hm.1 (s.take i) 0 (fun x hx => hs x (List.mem_of_mem_take hx)) (by omega) (by omega) x hx
    omega), Option.bind_some, inn_app]
  obtain ⟨z, h1, h2, h3, h4⟩ := inn_in (isum (s.take i)) s[i] most hm.1 (by omega) (by omega) 60 most (by omega) (by omega)
  rw [show isum (s.take i) + most - most = isum (s.take i) by omega] at h1 h3 h4
  rw [h1, Option.bind_some, inn_out _ _ _ _ _ (fun x hx => by
    have l2 : (s.drop (i + 1)).length ≤ 12 := by rw [List.length_drop]; omega
    have := landO_mem most hm.1 (s.drop (i + 1)) (isum (s.take i) + s[i]) (fun x hx => hs x (List.mem_of_mem_drop hx)) (by omega) (by omega) x hx
    omega)]
  exact ⟨z, rfl, h2, by omega, by omega⟩
end Hx8
section Hx9
variable (most a c n : Int) (t : ByteArray) (x25 x26 x31 : Int) (x27 x40 : Bool) (x35 : ByteArray) (s d u0 u1 v0 v1 p0 p1 : List Int)
theorem l0_true (h5 : ∀ k, 2000102 ≤ k → laws_FnHousesBuiltOfAll.j5 k a c n t x25 x26 x27 x31 x35 x40 s d u0 u1 v0 v1 p0 p1 = some true)
    (hm : 1 ≤ most ∧ most ≤ 40) (hs : ∀ x ∈ s, 1 ≤ x ∧ x ≤ 40) (hl : s.length ≤ 12) (L : List Int) (hL : landO most s 0 = L) : ∀ (dd i k : Nat), i + dd = s.length → 2000103 + 3000 * dd ≤ k →
    laws_FnHousesBuiltOfAll.l0 k most a c n t L (L.length : Int) x25 x26 x27 x31 x35 x40 (isum (s.take i)) ((landO most (s.take i) 0).length : Int) s (s.length : Int) (i : Int) s d u0 u1 v0 v1 p0 p1 = some true
  | 0, i, k, hi, hk => by
    obtain ⟨k, rfl⟩ : ∃ m, k = m + 1 := ⟨k - 1, by omega⟩
    obtain rfl : i = s.length := by omega
    simp only [laws_FnHousesBuiltOfAll.l0, List.take_length, hL]
    rw [if_neg (by omega), if_pos trivial]
    exact h5 k (by omega)
  | dd + 1, i, k, hi, hk => by
    obtain ⟨k, rfl⟩ : ∃ m, k = m + 1 := ⟨k - 1, by omega⟩
    have h : i < s.length := by omega
    have g1 : (i : Int) < (s.length : Int) := Int.ofNat_lt.2 h
    have g2 : 0 ≤ (i : Int) := Int.natCast_nonneg i
    have hn := hs s[i] (List.getElem_mem h)
    have ll : L.length ≤ 1000 := by
      have := landO_length most s 0
      rw [hL] at this
      omega
    have bs0 := isum_bd s (fun x hx => by have := hs x hx; omega)
    have lb : ∀ x ∈ L, 0 ≤ x ∧ x ≤ 2000 := fun x hx => by
      rw [← hL] at hx
      have := landO_mem most hm.1 s 0 hs (by omega) (by omega) x hx
      omega
    have b1 := isum_bd (s.take i) (fun x hx => by have := hs x (List.mem_of_mem_take hx); omega)
    have l1 : (s.take i).length ≤ 12 := by rw [List.length_take]; omega
    obtain ⟨z, e1, e2, e3, e4⟩ := inn_all most s hm hs hl i h
    rw [hL] at e1
    have ih := l0_true h5 hm hs hl L hL dd (i + 1) (k - (2 * L.length + 1)) (by omega) (by omega)
    have ew : wrap64 ((i : Int) + 1) = ((i + 1 : Nat) : Int) := by unfold wrap64; omega
    have en : wrap64 (((landO most (s.take i) 0).length : Int) + wrap64 (Int.tdiv (s[i] - 1) most)) = ((landO most (s.take (i + 1)) 0).length : Int) := by
      have q1 : s.take (i + 1) = s.take i ++ [s[i]] := List.take_succ_eq_append_getElem h
      have q2 := landI_cnt most (isum (s.take i)) s[i] hm.1 hn
      have q3 := landO_length most (s.take i) 0
      have q4 := landI_length most (isum (s.take i)) s[i] 60 most
      rw [q1, landO_app, List.length_append, Int.zero_add]
      simp only [landO, List.append_nil]
      rw [← q2, wr (x := ((landI most (isum (s.take i)) s[i] 60 most).length : Int)) (by omega) (by omega), wr (by omega) (by omega)]
      omega
    simp only [laws_FnHousesBuiltOfAll.l0, rdn s i h]
    rw [if_pos g1, if_pos g2, if_pos g1]
    have key := l1_to most a c n t (L.length : Int) x25 x26 x31 x27 x40 x35 s d u0 u1 v0 v1 p0 p1 L ll lb (isum (s.take i)) s[i] ((landO most (s.take i) 0).length : Int) (i : Int) hm (by omega) hn z ⟨e3, e4⟩ e2 L.length 0 k (isum (s.take i)) (by omega) (by omega) (by omega) (by rw [List.drop_zero]; exact e1)
    rw [Int.natCast_zero] at key
    rw [key, ew, en, ← isum_take_succ s i h]
    exact ih
theorem j0_true (h5 : ∀ k, 2000102 ≤ k → laws_FnHousesBuiltOfAll.j5 k a c n t x25 x26 x27 x31 x35 x40 s d u0 u1 v0 v1 p0 p1 = some true) (few : Int) (hf : (landV s d most).2 = true → few = ((landO most s 0).length : Int)) (k : Nat) (hk : 2100000 ≤ k) :
    laws_FnHousesBuiltOfAll.j0 k most a c n t (landV s d most).1 (landV s d most).2 few x25 x26 x27 x31 x35 x40 false s d u0 u1 v0 v1 p0 p1 = some true := by
  obtain ⟨k, rfl⟩ : ∃ m, k = m + 1 := ⟨k - 1, by omega⟩
  obtain ⟨k, rfl⟩ : ∃ m, k = m + 1 := ⟨k - 1, by omega⟩
  simp only [laws_FnHousesBuiltOfAll.j0, Bool.false_eq_true, if_false]
  by_cases g : hsB s d = true ∧ 1 ≤ most ∧ most ≤ 40
  · have e : landV s d most = (landO most s 0, true) := by unfold landV; rw [if_pos g]
    have f := hsB_facts g.1
    have hf' := hf (by rw [e])
    subst hf'
    have ll := landO_length most s 0
    have so := landO_sorted most g.2.1 s 0 f.2.2.2.1 (by omega) (by omega)
    have l0 := l0_true most a c n t x25 x26 x31 x27 x40 x35 s d u0 u1 v0 v1 p0 p1 h5 g.2 f.2.2.2.1 (by omega) (landO most s 0) rfl s.length 0 k (by omega) (by omega)
    rw [e]
    simp only [if_true, wRises_val _ (show (landO most s 0).length ≤ 1000 by omega) so (k + 1) (by omega), Option.bind_some, laws_FnHousesBuiltOfAll.j1, Bool.not_true, Bool.false_eq_true, if_false]
    exact l0
  · have e : landV s d most = ([], false) := by unfold landV; rw [if_neg g]
    rw [e]
    simp only [Bool.false_eq_true, if_false]
    exact h5 (k + 1) (by omega)
end Hx9
theorem landV_len (s d : List Int) (a : Int) : (landV s d a).1.length ≤ 1000 := by
  unfold landV
  split
  · rename_i h
    have f := hsB_facts h.1
    have := landO_length a s 0
    simp only
    omega
  · simp
theorem dropV_len (s d : List Int) : (dropV s d).1.length ≤ 1000 ∧ (dropV s d).2.1.length ≤ 1000 := by
  unfold dropV
  split
  · rename_i h
    have f := hsB_facts h.1
    simp only [List.length_take]
    omega
  · simp
theorem houses_true (s d : List Int) (most : Int) (u0 u1 : List Int) (a c : Int) (v0 v1 : List Int) (n : Int) (t : ByteArray) (hd : d.length ≤ 9223372036854775807) (hu : u1.length ≤ 9223372036854775807) (hv : v1.length ≤ 9223372036854775807) (k : Nat) (hk : 3000000 ≤ k) :
    laws_FnHousesBuiltOfAll.f k s d most u0 u1 a c v0 v1 n t = some true := by
  unfold laws_FnHousesBuiltOfAll.f
  by_cases ht : (t.size : Int) > 1048576
  · rw [if_pos ht]
  · rw [if_neg ht]
    have o1 : (needV s d most).2 = (landV s d most).2 := by unfold needV landV; split <;> rfl
    have of : (landV s d most).2 = true → (needV s d most).1 = ((landO most s 0).length : Int) := by
      unfold needV landV
      split
      · intro; rfl
      · intro h; cases h
    have ll := landV_len s d most
    have pl := dropV_len s d
    have is : spec_IsHouse.f k s d = some (hsB s d) := by simp only [spec_IsHouse.f, ldGood_eq s d (by omega) k (by omega), Option.bind_some]
    have w1 := wSame_val (landV s d most).1 ll k (by omega)
    have w2 := wHouse_val (dropV s d).1 (dropV s d).2.1 pl.1 pl.2 k (by omega)
    rcases long_both s d hd k (by omega) with ⟨g, q, hq, q1, q2, q3, q4⟩ | ⟨g, q1, q2⟩
    · have o2 : doorV s d = (isum d, true) := by unfold doorV; rw [if_pos g]
      have o3 : hOut s d = (hTxt s d, true) := by unfold hOut; rw [if_pos g]
      have o5 : ((dropV s d).2.2 != decide ((s.length : Int) > 1)) = false := by
        have f := hsB_facts g
        have o4 : (dropV s d).2.2 = decide ((s.length : Int) > 1) := by
          unfold dropV
          by_cases c : (s.length : Int) = 1
          · rw [if_neg (fun z => z.2 c), c]; rfl
          · rw [if_pos ⟨g, c⟩]; exact (decide_eq_true (by omega)).symm
        rw [o4]
        exact bne_self_eq_false _
      have j0 := j0_true most a c n t (q : Int) s[q] (isum d) true (dropV s d).2.2 (hTxt s d) s d u0 u1 v0 v1 (dropV s d).1 (dropV s d).2.1 (fun k hk => j5_house n t (by omega) s d u0 u1 v0 v1 a c hu hv g q hq q3 q4 k hk) (needV s d most).1 of k (by omega)
      simp only [land_i s d most hd k (by omega), land_s s d most hd k (by omega), need_i s d most hd k (by omega), need_s s d most hd k (by omega), q1, q2, door_i s d hd k (by omega), door_s s d hd k (by omega), houseText_impl s d hd k (by omega), houseText_spec s d hd k (by omega), (drop_both s d hd k (by omega)).1, (drop_both s d hd k (by omega)).2, isHouse_eq s d (by omega), is, g, o1, o2, o3, w1, w2, o5, Option.bind_some, bne_self_eq_false, Bool.false_eq_true, if_false, if_true, eq_self, ite_self]
      exact j0
    · have gf : hsB s d = false := by simpa using g
      have o2 : doorV s d = (0, false) := by unfold doorV; rw [if_neg g]
      have o3 : hOut s d = ((⟨#[]⟩ : ByteArray), false) := by unfold hOut; rw [if_neg g]
      have o4 : (dropV s d).2.2 = false := by unfold dropV; rw [if_neg (fun z => g z.1)]
      have o6 : landV s d most = ([], false) := by unfold landV; rw [if_neg (fun z => g z.1)]
      have o5 : ((dropV s d).2.2 != false) = false := by rw [o4]; rfl
      have j0 := j0_true most a c n t 0 0 0 false (dropV s d).2.2 (⟨#[]⟩ : ByteArray) s d u0 u1 v0 v1 (dropV s d).1 (dropV s d).2.1 (fun k hk => j5_none n t (by omega) s d u0 u1 v0 v1 a c hu hv 0 0 0 (⟨#[]⟩ : ByteArray) k hk) (needV s d most).1 of k (by omega)
      rw [o6] at j0 o1 w1
      simp only [land_i s d most hd k (by omega), land_s s d most hd k (by omega), need_i s d most hd k (by omega), need_s s d most hd k (by omega), q1, q2, door_i s d hd k (by omega), door_s s d hd k (by omega), houseText_impl s d hd k (by omega), houseText_spec s d hd k (by omega), (drop_both s d hd k (by omega)).1, (drop_both s d hd k (by omega)).2, isHouse_eq s d (by omega), is, gf, o1, o2, o3, o6, w1, w2, o5, Option.bind_some, bne_self_eq_false, Bool.false_eq_true, if_false, if_true, eq_self, ite_self]
      exact j0
theorem FnHousesBuiltOfAll (l0_0 : List Int) (l0_1 : List Int) (a1 : Int) (l2_0 : List Int) (l2_1 : List Int) (a3 : Int) (a4 : Int) (l5_0 : List Int) (l5_1 : List Int) (a6 : Int) (a7 : ByteArray) (m0_0 : l0_0.length ≤ maxLen) (w0_0 : ∀ x ∈ l0_0, (Lit.int .i64 x).wf = true) (m0_1 : l0_1.length ≤ maxLen) (w0_1 : ∀ x ∈ l0_1, (Lit.int .i64 x).wf = true) (w1 : (Lit.int .i64 a1).wf = true) (m2_0 : l2_0.length ≤ maxLen) (w2_0 : ∀ x ∈ l2_0, (Lit.int .i64 x).wf = true) (m2_1 : l2_1.length ≤ maxLen) (w2_1 : ∀ x ∈ l2_1, (Lit.int .i64 x).wf = true) (w3 : (Lit.int .i64 a3).wf = true) (w4 : (Lit.int .i64 a4).wf = true) (m5_0 : l5_0.length ≤ maxLen) (w5_0 : ∀ x ∈ l5_0, (Lit.int .i64 x).wf = true) (m5_1 : l5_1.length ≤ maxLen) (w5_1 : ∀ x ∈ l5_1, (Lit.int .i64 x).wf = true) (w6 : (Lit.int .i64 a6).wf = true) (w7 : a7.size ≤ 140737488351232) : ∃ k, laws_FnHousesBuiltOfAll.f k l0_0 l0_1 a1 l2_0 l2_1 a3 a4 l5_0 l5_1 a6 a7 = some true := by
  exact ⟨3000000, houses_true _ _ _ _ _ _ _ _ _ _ _ m0_1 m2_1 m5_1 3000000 (Nat.le_refl _)⟩
end Go.Proofs.YtbmdgmmegchmnaaDoor.Pure
