/- The plain law of FnExactParseFlight: what the reference's function tells, the program's function tells, for every input. No further condition. -/
import Derived.Test.YtbmdgmmegchmnaaDoorZpf4
import Derived.Lib.ItoaNum
import Derived.Lib.ItoaLen
import Derived.Lib.AtoiAllCases
import Derived.Lib.Atoi
import Derived.Lib.Split
import Derived.Lib.SplitLaws
namespace Go.Proofs.YtbmdgmmegchmnaaDoor.Pure
open Go.RowKit Go.Proofs.YtbmdgmmegchmnaaDoor.U Go.Proofs.YtbmdgmmegchmnaaDoorW.PrintWords Go.Proofs.YtbmdgmmegchmnaaDoorW.PrintLast
set_option linter.unusedVariables false
set_option linter.unusedSimpArgs false
theorem in_eq (a b c : Int) : spec_l1In.f a b c = some (decide (b ≤ a ∧ a ≤ c)) := by
  unfold spec_l1In.f
  by_cases h : a ≥ b
  · rw [if_pos h]
    simp [show b ≤ a from h]
  · rw [if_neg h]
    simp [show ¬ b ≤ a from h]
theorem within_eq (a b c : Int) : impl_within.f a b c = some (decide (b ≤ a ∧ a ≤ c)) := by
  unfold impl_within.f
  by_cases h : b ≤ a
  · rw [if_pos h]
    simp [h]
  · rw [if_neg h]
    simp [h]
section Num
open Go.Lib
theorem u8_dig (d : Nat) (h : d < 10) : (UInt8.ofNat (48 + d)).toNat = 48 + d := by
  rw [UInt8.toNat_ofNat']; exact Nat.mod_eq_of_lt (by omega)
theorem dd_step (n : Nat) (h : ¬ n < 10) : decDigits n = decDigits (n / 10) ++ [UInt8.ofNat (48 + n % 10)] := by rw [decDigits, dif_neg h]
theorem dd_len (k : Nat) : ∀ n, n < 10 ^ (k + 1) → (decDigits n).length ≤ k + 1 := by
  induction k with
  | zero => intro n h; rw [decDigits_one (by simpa using h)]; simp
  | succ k ih =>
    intro n h
    by_cases c : n < 10
    · rw [decDigits_one c]; simp
    · rw [dd_step n c, List.length_append]
      have := ih (n / 10) (by rw [Nat.pow_succ] at h; omega)
      simpa using this
theorem dd_pos (n : Nat) : 1 ≤ (decDigits n).length := by
  by_cases c : n < 10
  · rw [decDigits_one c]; simp
  · rw [dd_step n c]; simp
theorem dd_ne (n : Nat) : decDigits n ≠ [] := by intro h; have := dd_pos n; rw [h] at this; simp at this
theorem dd_digit (n : Nat) : ∀ c ∈ decDigits n, 48 ≤ c.toNat ∧ c.toNat ≤ 57 := by
  induction n using Nat.strongRecOn with
  | _ n ih =>
    intro c hc
    by_cases h : n < 10
    · rw [decDigits_one h] at hc
      obtain rfl := List.mem_singleton.1 hc
      rw [u8_dig n h]; omega
    · rw [dd_step n h, List.mem_append] at hc
      rcases hc with hc | hc
      · exact ih (n / 10) (by omega) c hc
      · obtain rfl := List.mem_singleton.1 hc
        rw [u8_dig (n % 10) (by omega)]; omega
theorem hd_app {l r : List UInt8} (h : l ≠ []) : (l ++ r).head? = l.head? := by
  cases l with
  | nil => exact absurd rfl h
  | cons _ _ => rfl
theorem dd_head (n : Nat) (h1 : 1 ≤ n) : (decDigits n).head? ≠ some 48 := by
  induction n using Nat.strongRecOn with
  | _ n ih =>
    by_cases h : n < 10
    · rw [decDigits_one h]
      intro e
      have e' : UInt8.ofNat (48 + n) = 48 := by simpa using e
      have := congrArg UInt8.toNat e'
      rw [u8_dig n h] at this
      have z : (48 : UInt8).toNat = 48 := rfl
      omega
    · rw [dd_step n h, hd_app (dd_ne _)]
      exact ih (n / 10) (by omega) (by omega)
theorem df_app (l : List UInt8) (c : UInt8) : ∀ acc, decFrom acc (l ++ [c]) = (decFrom acc l).bind fun a => (digitVal c).map fun d => a * 10 + d := by
  induction l with
  | nil => intro acc; simp only [List.nil_append, decFrom, Option.bind_some]; cases digitVal c <;> rfl
  | cons b r ih =>
    intro acc
    simp only [List.cons_append, decFrom]
    cases digitVal b with
    | none => rfl
    | some d => exact ih _
theorem dv_dig (d : Nat) (h : d < 10) : digitVal (UInt8.ofNat (48 + d)) = some d := by
  unfold digitVal; rw [u8_dig d h, if_pos (by omega)]; congr 1; omega
theorem df_dec (n : Nat) : decFrom 0 (decDigits n) = some n := by
  induction n using Nat.strongRecOn with
  | _ n ih =>
    by_cases h : n < 10
    · rw [decDigits_one h]; simp only [decFrom, dv_dig n h]; congr 1; omega
    · rw [dd_step n h, df_app, ih (n / 10) (by omega), Option.bind_some, dv_dig _ (by omega), Option.map_some]; congr 1; omega
theorem dv_back {c : UInt8} {d : Nat} (h : digitVal c = some d) : d < 10 ∧ c = UInt8.ofNat (48 + d) := by
  obtain ⟨h1, h2, h3⟩ := digitVal_eq h
  refine ⟨by omega, ?_⟩
  apply UInt8.toNat_inj.1
  rw [u8_dig d (by omega)]; omega
theorem df_canon : ∀ (k : Nat) (l : List UInt8) (m : Nat), l.length = k → l ≠ [] → (l.head? = some 48 → l.length = 1) → decFrom 0 l = some m → decDigits m = l ∧ (l.head? ≠ some 48 → 1 ≤ m)
  | 0, l, m, hk, hne, _, _ => absurd (List.eq_nil_of_length_eq_zero hk) hne
  | k + 1, l, m, hk, hne, hz, hm => by
    obtain ⟨r, c, rfl⟩ : ∃ r c, l = r ++ [c] := ⟨l.dropLast, l.getLast hne, (List.dropLast_concat_getLast hne).symm⟩
    rw [df_app] at hm
    cases hr : decFrom 0 r with
    | none => rw [hr] at hm; cases hm
    | some a =>
      rw [hr, Option.bind_some] at hm
      cases hd : digitVal c with
      | none => rw [hd] at hm; cases hm
      | some d =>
        rw [hd, Option.map_some] at hm
        obtain rfl := Option.some.inj hm
        obtain ⟨d10, rfl⟩ := dv_back hd
        by_cases e : r = []
        · subst e
          simp only [decFrom] at hr
          obtain rfl := Option.some.inj hr
          rw [show 0 * 10 + d = d by omega, decDigits_one d10]
          refine ⟨rfl, fun h => ?_⟩
          rcases Nat.eq_zero_or_pos d with z | z
          · subst z; exact absurd rfl h
          · exact z
        · have hh : (r ++ [UInt8.ofNat (48 + d)]).head? = r.head? := hd_app e
          have hr1 : 1 ≤ r.length := by cases r with | nil => exact absurd rfl e | cons _ _ => simp
          have nz : r.head? ≠ some 48 := fun h => by
            have := hz (hh.trans h)
            simp only [List.length_append, List.length_cons, List.length_nil] at this
            omega
          obtain ⟨i1, i2⟩ := df_canon k r a (by simpa using hk) e (fun h => absurd h nz) hr
          have := i2 nz
          refine ⟨?_, fun _ => by omega⟩
          rw [dd_step (a * 10 + d) (by omega), show (a * 10 + d) / 10 = a by omega, show (a * 10 + d) % 10 = d by omega, i1]
theorem pu_of_df : ∀ (l : List UInt8) (acc m : Nat), decFrom acc l = some m → l.length ≤ 8 → acc < 1000000000 * 10 ^ (8 - l.length) → parseUint10 acc l = .ok m
  | [], acc, m, h, _, _ => by simp only [decFrom] at h; obtain rfl := Option.some.inj h; rfl
  | c :: r, acc, m, h, hl, ha => by
    simp only [decFrom] at h
    cases hd : digitVal c with
    | none => rw [hd] at h; cases h
    | some d =>
      rw [hd] at h
      obtain ⟨h1, h2, h3⟩ := digitVal_eq hd
      simp only [List.length_cons] at hl ha
      have hp : 10 ^ (8 - r.length) = 10 * 10 ^ (8 - (r.length + 1)) := by
        rw [show 8 - r.length = (8 - (r.length + 1)) + 1 by omega, Nat.pow_succ]; omega
      have hb : 10 ^ (8 - (r.length + 1)) ≤ 10 ^ 7 := Nat.pow_le_pow_right (by decide) (by omega)
      have e7 : (10 : Nat) ^ 7 = 10000000 := by decide
      simp only [parseUint10]
      rw [if_pos ⟨h1, h2⟩, if_neg (by omega), if_neg (by omega), ← h3]
      exact pu_of_df r (acc * 10 + d) m h (by omega) (by rw [hp]; omega)
theorem atoi_dec (n : Nat) (h : n ≤ 999999) : atoiAll (decDigits n) = .ok (n : Int) := by
  have hl := dd_len 5 n (by omega)
  have hp : parseMag (decDigits n) = .ok n := by
    unfold parseMag
    rw [if_neg (dd_ne n)]
    exact pu_of_df _ _ _ (df_dec n) (by omega) (Nat.mul_pos (by decide) (Nat.pow_pos (by decide)))
  cases e : decDigits n with
  | nil => exact absurd e (dd_ne n)
  | cons c r =>
    have hc := dd_digit n c (by rw [e]; simp)
    rw [atoiAll_plain c r (by omega) (by omega), ← e, hp]
    simp only [signless]
    rw [if_neg (by omega)]
def numOf (l : List UInt8) : Int :=
  match atoiAll l with
  | .ok v => if v < 0 then -1 else if 999999 < v then -1 else if itoa v = l then v else -1
  | _ => -1
theorem itoa_dec (n : Nat) : itoa (n : Int) = decDigits n := by
  unfold itoa; rw [if_neg (by omega)]; rfl
theorem numOf_dec (n : Nat) (h : n ≤ 999999) : numOf (decDigits n) = n := by
  unfold numOf
  rw [atoi_dec n h]
  simp only
  rw [if_neg (by omega), if_neg (by omega), if_pos (itoa_dec n)]
theorem numOf_cases (l : List UInt8) : numOf l = -1 ∨ ∃ n : Nat, n ≤ 999999 ∧ numOf l = n ∧ l = decDigits n := by
  unfold numOf
  cases atoiAll l with
  | ok v =>
    simp only
    by_cases c1 : v < 0
    · rw [if_pos c1]; exact .inl rfl
    · rw [if_neg c1]
      by_cases c2 : 999999 < v
      · rw [if_pos c2]; exact .inl rfl
      · rw [if_neg c2]
        by_cases c3 : itoa v = l
        · rw [if_pos c3]
          obtain ⟨n, rfl⟩ : ∃ n : Nat, v = n := ⟨v.toNat, by omega⟩
          exact .inr ⟨n, by omega, rfl, by rw [← c3, itoa_dec]⟩
        · rw [if_neg c3]; exact .inl rfl
  | _ => exact .inl rfl
def readOf (l : List UInt8) : Int :=
  if 1 ≤ l.length ∧ l.length ≤ 6 ∧ (l.head? = some 48 → l.length = 1) then (match decFrom 0 l with | some m => (m : Int) | none => -1) else -1
theorem readOf_eq (l : List UInt8) : readOf l = numOf l := by
  have key : ∀ n : Nat, n ≤ 999999 → readOf (decDigits n) = n := fun n h => by
    unfold readOf
    have h1 := dd_pos n
    have h6 := dd_len 5 n (by omega)
    have hz : (decDigits n).head? = some 48 → (decDigits n).length = 1 := fun hz => by
      rcases Nat.eq_zero_or_pos n with z | z
      · subst z; rw [decDigits_one (by omega)]; rfl
      · exact absurd hz (dd_head n z)
    rw [if_pos ⟨h1, h6, hz⟩, df_dec n]
  have back : readOf l = -1 ∨ ∃ n : Nat, n ≤ 999999 ∧ l = decDigits n := by
    unfold readOf
    by_cases c : 1 ≤ l.length ∧ l.length ≤ 6 ∧ (l.head? = some 48 → l.length = 1)
    · rw [if_pos c]
      cases hm : decFrom 0 l with
      | none => exact .inl rfl
      | some m =>
        have hlt := decFrom_lt l 0 m hm
        have hp : 10 ^ l.length ≤ 10 ^ 6 := Nat.pow_le_pow_right (by decide) c.2.1
        have e6 : (10 : Nat) ^ 6 = 1000000 := by decide
        refine .inr ⟨m, by omega, ((df_canon l.length l m rfl (fun e => by rw [e] at c; simp at c) c.2.2 hm).1).symm⟩
    · rw [if_neg c]; exact .inl rfl
  rcases numOf_cases l with h | ⟨n, hn, h, rfl⟩
  · rcases back with h' | ⟨n, hn, rfl⟩
    · rw [h, h']
    · rw [numOf_dec n hn, key n hn]
  · rw [h, key n hn]
theorem numOf_none {l : List UInt8} {c : UInt8} (h : c ∈ l) (hc : c.toNat < 48 ∨ 57 < c.toNat) : numOf l = -1 := by
  rcases numOf_cases l with h' | ⟨n, hn, _, rfl⟩
  · exact h'
  · have := dd_digit n c h; omega
theorem numOf_nil : numOf [] = -1 := rfl
theorem numOf_len {l : List UInt8} {k : Nat} (hk : numOf l < 10 ^ (k + 1)) (h0 : 0 ≤ numOf l) : 1 ≤ l.length ∧ l.length ≤ k + 1 := by
  rcases numOf_cases l with h' | ⟨n, hn, e, rfl⟩
  · omega
  · exact ⟨dd_pos n, dd_len k n (by rw [e] at hk; exact_mod_cast hk)⟩
end Num
section Spl
open Go.Lib
def spl (b : UInt8) : List UInt8 → List (List UInt8)
  | [] => [[]]
  | c :: r => if c = b then [] :: spl b r else (match spl b r with | h :: t => (c :: h) :: t | [] => [[c]])
theorem spl_ne (b : UInt8) (l : List UInt8) : spl b l ≠ [] := by
  cases l with
  | nil => simp [spl]
  | cons c r => unfold spl; split <;> (try simp); split <;> simp
theorem spl_hit (b : UInt8) (y : List UInt8) : ∀ x : List UInt8, b ∉ x → spl b (x ++ b :: y) = x :: spl b y
  | [], _ => by simp [spl]
  | c :: r, h => by
    have hc : c ≠ b := fun e => h (by simp [e])
    rw [List.cons_append, spl, if_neg hc, spl_hit b y r (fun e => h (by simp [e]))]
theorem spl_miss (b : UInt8) : ∀ x : List UInt8, b ∉ x → spl b x = [x]
  | [], _ => rfl
  | c :: r, h => by
    have hc : c ≠ b := fun e => h (by simp [e])
    rw [spl, if_neg hc, spl_miss b r (fun e => h (by simp [e]))]
theorem mem_parts (b : UInt8) : ∀ l : List UInt8, b ∈ l → ∃ x y, l = x ++ b :: y ∧ b ∉ x
  | [], h => by cases h
  | c :: r, h => by
    by_cases e : c = b
    · exact ⟨[], r, by simp [e], by simp⟩
    · obtain ⟨x, y, rfl, hx⟩ := mem_parts b r (by simpa [Ne.symm e] using h)
      exact ⟨c :: x, y, rfl, by simp [hx, Ne.symm e]⟩
theorem index_hit (b : UInt8) (y : List UInt8) : ∀ x : List UInt8, b ∉ x → index (x ++ b :: y) [b] = (x.length : Int)
  | [], _ => by rw [List.nil_append, index]; simp [List.isPrefixOf]
  | c :: r, h => by
    have hc : c ≠ b := fun e => h (by simp [e])
    rw [List.cons_append, index, index_hit b y r (fun e => h (by simp [e]))]
    have hp : ([b] : List UInt8).isPrefixOf (c :: (r ++ b :: y)) = false := by simp [List.isPrefixOf, Ne.symm hc]
    rw [hp]
    have : ((r.length : Int) == -1) = false := by rw [beq_eq_false_iff_ne]; omega
    simp [this]
theorem index_miss (b : UInt8) : ∀ x : List UInt8, b ∉ x → index x [b] = -1
  | [], _ => by simp [index]
  | c :: r, h => by
    have hc : c ≠ b := fun e => h (by simp [e])
    rw [index, index_miss b r (fun e => h (by simp [e]))]
    have hp : ([b] : List UInt8).isPrefixOf (c :: r) = false := by simp [List.isPrefixOf, Ne.symm hc]
    rw [hp]; simp
theorem cut_hit (b : UInt8) (x y : List UInt8) (h : b ∉ x) : cut (x ++ b :: y) [b] = (x, y, true) := by
  unfold cut
  rw [index_hit b y x h, if_pos (by omega)]
  simp
theorem cut_miss (b : UInt8) (x : List UInt8) (h : b ∉ x) : cut x [b] = (x, [], false) := by
  unfold cut
  rw [index_miss b x h, if_neg (by omega)]
end Spl
section Prs
open Go.Lib
theorem bt_get (s : ByteArray) (i : Nat) (h : i < s.size) : ∃ c, s.data.toList[i]? = some c ∧ bt s (i : Int) = (c.toNat : Int) := by
  have h' : i < s.data.toList.length := by rw [Array.length_toList]; exact h
  refine ⟨s.data.toList[i], List.getElem?_eq_getElem h', ?_⟩
  unfold bt
  have e : ((i : Int)).toNat = i := Int.toNat_natCast i
  rw [dif_pos (by rw [e]; exact h)]
  simp only [e]
  rw [Array.getElem_toList]
  rfl
theorem drop_get {l : List UInt8} {i : Nat} {c : UInt8} (h : l[i]? = some c) : l.drop i = c :: l.drop (i + 1) := by
  obtain ⟨hi, rfl⟩ := List.getElem?_eq_some_iff.1 h
  exact List.drop_eq_getElem_cons hi
theorem dig_step (n c : Nat) (hn : n < 1000000) (h1 : 48 ≤ c) (h2 : c ≤ 57) : wrap64 ((wrap64 (10 * (n : Int))) + (((c : Int) - 48) % 256)) = ((n * 10 + (c - 48) : Nat) : Int) := by unfold wrap64; omega
theorem w_succ (i : Nat) (h : i < 4611686018427387904) : wrap64 ((i : Int) + 1) = ((i + 1 : Nat) : Int) := by unfold wrap64; omega
theorem l1Read_l0 (s : ByteArray) (hs : s.size ≤ 6) : ∀ (d i n K : Nat), i + d = s.size → d < K → n < 10 ^ i →
    spec_l1Read.l0 K s (n : Int) (i : Int) = some (match decFrom n (s.data.toList.drop i) with | some m => (m : Int) | none => -1)
  | 0, i, n, K, hi, hK, _ => by
    obtain ⟨K, rfl⟩ : ∃ m, K = m + 1 := ⟨K - 1, by omega⟩
    simp only [spec_l1Read.l0]
    rw [if_neg (by omega), List.drop_of_length_le (by rw [Array.length_toList]; have : s.data.size = s.size := rfl
                                                      omega)]
    rfl
  | d + 1, i, n, K, hi, hK, hn => by
    obtain ⟨K, rfl⟩ : ∃ m, K = m + 1 := ⟨K - 1, by omega⟩
    obtain ⟨c, hc, hb⟩ := bt_get s i (by omega)
    have hlt : c.toNat < 256 := c.toNat_lt
    have hp : 10 ^ i ≤ 10 ^ 6 := Nat.pow_le_pow_right (by decide) (by omega)
    have e6 : (10 : Nat) ^ 6 = 1000000 := by decide
    simp only [spec_l1Read.l0]
    rw [if_pos (by omega), if_pos (by omega), hb, drop_get hc]
    simp only [decFrom, digitVal]
    by_cases h1 : c.toNat < 48
    · rw [if_pos (by omega), if_neg (by omega)]
    · rw [if_neg (by omega)]
      by_cases h2 : 57 < c.toNat
      · rw [if_pos (by omega), if_neg (by omega)]
      · rw [if_neg (by omega), if_pos (by omega)]
        rw [dig_step n c.toNat (by omega) (by omega) (by omega), w_succ i (by omega), l1Read_l0 s hs d (i + 1) (n * 10 + (c.toNat - 48)) K (by omega) (by omega) (by rw [Nat.pow_succ]; omega)]
theorem l1Read_eq (s : ByteArray) (K : Nat) (hK : 10 ≤ K) : spec_l1Read.f K s = some (numOf s.data.toList) := by
  rw [← readOf_eq]
  obtain ⟨K, rfl⟩ : ∃ m, K = m + 1 := ⟨K - 1, by omega⟩
  have hz : s.data.toList.length = s.size := Array.length_toList
  unfold spec_l1Read.f readOf
  rw [in_eq]
  simp only [Option.bind_some]
  by_cases h : 1 ≤ s.size ∧ s.size ≤ 6
  · rw [if_pos (by rw [decide_eq_true_eq]; omega), if_pos (by omega)]
    obtain ⟨c, hc, hb⟩ := bt_get s 0 (by omega)
    have hb' : bt s 0 = (c.toNat : Int) := hb
    have hh : s.data.toList.head? = some c := by rw [List.head?_eq_getElem?]; exact hc
    have l0 := l1Read_l0 s h.2 s.size 0 0 K (by omega) (by omega) (by decide)
    simp only [List.drop_zero, Int.natCast_zero] at l0
    have l0' : spec_l1Read.l0 K s 0 0 = some (match decFrom 0 s.data.toList with | some m => (m : Int) | none => -1) := l0
    rw [hb', hh, hz]
    by_cases h0 : c = 48
    · subst h0
      rw [if_pos (by rfl)]
      simp only [spec_l1Read.j0]
      by_cases h1 : s.size = 1
      · rw [if_neg (by simp; omega), l0', if_pos ⟨h.1, h.2, fun _ => h1⟩]
      · rw [if_pos (by simp; omega), if_neg (fun e => h1 (e.2.2 (by simp)))]
    · have hne : c.toNat ≠ 48 := fun e => h0 (UInt8.toNat_inj.1 e)
      rw [if_neg (by omega)]
      simp only [spec_l1Read.j0]
      rw [if_neg (by simp), l0', if_pos ⟨h.1, h.2, fun e => absurd (Option.some.inj e) h0⟩]
  · rw [if_neg (by rw [decide_eq_true_eq]; omega)]
    simp only [spec_l1Read.j0, if_true]
    rw [if_neg (by rw [hz]; omega)]
def pre (x : List UInt8) : List (List UInt8) → List (List UInt8)
  | h :: t => (x ++ h) :: t
  | [] => [x]
theorem pre_nil {l : List (List UInt8)} (h : l ≠ []) : pre [] l = l := by
  cases l with
  | nil => exact absurd rfl h
  | cons _ _ => rfl
theorem spl_ne_cons (b c : UInt8) (r : List UInt8) (h : c ≠ b) (x : List UInt8) : pre x (spl b (c :: r)) = pre (x ++ [c]) (spl b r) := by
  rw [spl, if_neg h]
  cases e : spl b r with
  | nil => exact absurd e (spl_ne b r)
  | cons h t => simp [pre]
theorem extract_toList (s : ByteArray) (a b : Nat) : (s.extract a b).data.toList = (s.data.toList.drop a).take (b - a) := by
  rw [extract_data]
theorem l1Split_l0 (s : ByteArray) (hs : s.size ≤ 1048576) (b : UInt8) : ∀ (d i f K : Nat) (out : List ByteArray), i + d = s.size → f ≤ i → out.length ≤ i → d < K →
    ∃ r, spec_l1Split.l0 K s (b.toNat : Int) out (f : Int) (i : Int) = some r ∧ r.map (·.data.toList) = out.map (·.data.toList) ++ pre ((s.data.toList.drop f).take (i - f)) (spl b (s.data.toList.drop i))
  | 0, i, f, K, out, hi, hf, ho, hK => by
    obtain ⟨K, rfl⟩ : ∃ m, K = m + 1 := ⟨K - 1, by omega⟩
    have hz : s.data.toList.length = s.size := Array.length_toList
    simp only [spec_l1Split.l0]
    refine ⟨out ++ [s.extract f s.size], ?_, ?_⟩
    · rw [if_neg (by omega), if_pos (by omega), if_pos (by omega), if_pos (by omega), Int.toNat_natCast]
    · rw [List.drop_of_length_le (l := s.data.toList) (i := i) (by omega)]
      have : i = s.size := by omega
      simp [spl, pre, extract_toList, this]
  | d + 1, i, f, K, out, hi, hf, ho, hK => by
    obtain ⟨K, rfl⟩ : ∃ m, K = m + 1 := ⟨K - 1, by omega⟩
    obtain ⟨c, hc, hb⟩ := bt_get s i (by omega)
    have e2 := w_succ i (by omega)
    simp only [spec_l1Split.l0]
    rw [if_pos (by omega), if_pos (by omega), hb, drop_get hc]
    by_cases h : c = b
    · subst h
      obtain ⟨r, hr, hm⟩ := l1Split_l0 s hs c d (i + 1) (i + 1) K (out ++ [s.extract f i]) (by omega) (Nat.le_refl _) (by simp; omega) (by omega)
      refine ⟨r, ?_, ?_⟩
      · rw [if_pos rfl, if_pos (by omega), if_pos (by omega), if_pos (by omega), if_pos (by omega), e2, Int.toNat_natCast, Int.toNat_natCast]
        exact hr
      · rw [hm, Nat.sub_self, List.take_zero, pre_nil (spl_ne _ _), spl, if_pos rfl]
        simp [pre, extract_toList]
    · have hne : ¬ (c.toNat : Int) = (b.toNat : Int) := fun e => h (UInt8.toNat_inj.1 (by omega))
      obtain ⟨r, hr, hm⟩ := l1Split_l0 s hs b d (i + 1) f K out (by omega) (by omega) (by omega) (by omega)
      refine ⟨r, ?_, ?_⟩
      · rw [if_neg hne, e2]
        exact hr
      · rw [hm, spl_ne_cons b c _ h]
        congr 2
        rw [show i + 1 - f = (i - f) + 1 by omega, List.take_add_one, List.getElem?_drop, show f + (i - f) = i by omega, hc]
        rfl
theorem l1Split_eq (s : ByteArray) (hs : s.size ≤ 1048576) (b : UInt8) (K : Nat) (hK : 1048600 ≤ K) : ∃ r, spec_l1Split.f K s (b.toNat : Int) = some r ∧ r.map (·.data.toList) = spl b s.data.toList := by
  obtain ⟨r, hr, hm⟩ := l1Split_l0 s hs b s.size 0 0 K [] (by omega) (by omega) (by simp) (by omega)
  refine ⟨r, hr, ?_⟩
  rw [hm]
  simp [pre_nil (spl_ne _ _)]
theorem num_eq (s : ByteArray) (h : s.size ≤ 281474976710656) : impl_num.f s = some (numOf s.data.toList) := by
  unfold impl_num.f
  rw [if_pos h]
  rfl
theorem Cut_eq (s : ByteArray) (b : UInt8) (h : s.size ≤ 1048576) : strings_Cut.f s (⟨#[b]⟩ : ByteArray) = some ((⟨(cut s.data.toList [b]).1.toArray⟩ : ByteArray), (⟨(cut s.data.toList [b]).2.1.toArray⟩ : ByteArray), (cut s.data.toList [b]).2.2) := by
  unfold strings_Cut.f
  rw [if_pos (by omega)]
theorem cut_len1 (l : List UInt8) (b : UInt8) : ((cut l [b]).1).length ≤ l.length := by
  unfold cut; split
  · exact List.length_take_le' _ _
  · exact Nat.le_refl _
theorem cut_len2 (l : List UInt8) (b : UInt8) : ((cut l [b]).2.1).length ≤ l.length := by
  unfold cut; split
  · simp only [List.length_drop]; omega
  · simp
theorem data_mk (l : List UInt8) : (⟨l.toArray⟩ : ByteArray).data.toList = l := rfl
theorem size_mk (l : List UInt8) : (⟨l.toArray⟩ : ByteArray).size = l.length := by simp [ByteArray.size]
theorem two_of {r : List ByteArray} {x y : List UInt8} (h : r.map (·.data.toList) = [x, y]) : ∃ a b, r = [a, b] ∧ a.data.toList = x ∧ b.data.toList = y := by
  match r, h with
  | [a, b], h => simp at h; exact ⟨a, b, rfl, h.1, h.2⟩
theorem spl_two (b : UInt8) (l : List UInt8) : (∃ x y, l = x ++ b :: y ∧ b ∉ x ∧ b ∉ y ∧ spl b l = [x, y] ∧ cut l [b] = (x, y, true)) ∨ ((spl b l).length ≠ 2 ∧ (b ∈ (cut l [b]).2.1 ∨ (cut l [b]).2.1 = [])) := by
  by_cases h : b ∈ l
  · obtain ⟨x, y, rfl, hx⟩ := mem_parts b l h
    rw [cut_hit b x y hx, spl_hit b y x hx]
    by_cases hy : b ∈ y
    · refine .inr ⟨?_, .inl hy⟩
      obtain ⟨x', y', rfl, hx'⟩ := mem_parts b y hy
      rw [spl_hit b y' x' hx']
      have := spl_ne b y'
      cases e : spl b y' with
      | nil => exact absurd e this
      | cons _ _ => simp
    · exact .inl ⟨x, y, rfl, hx, hy, by rw [spl_miss b y hy], rfl⟩
  · rw [cut_miss b l h, spl_miss b l h]
    exact .inr ⟨by simp, .inr rfl⟩
theorem num_many (b : UInt8) (hb : b.toNat < 48 ∨ 57 < b.toNat) {l : List UInt8} (h : b ∈ l ∨ l = []) : numOf l = -1 := by
  rcases h with h | rfl
  · exact numOf_none h hb
  · exact numOf_nil
end Prs
def flB (a b c : Int) : Bool := decide ((1 ≤ a ∧ a ≤ 100) ∧ (1 ≤ b ∧ b ≤ 250) ∧ 1 ≤ c ∧ c ≤ 500)
theorem riGood_eq (a b c : Int) : spec_riGood.f a b c = some (flB a b c) := by
  simp only [spec_riGood.f, in_eq, Option.bind_some, flB, decide_eq_true_eq]
  by_cases h1 : 1 ≤ a ∧ a ≤ 100 <;> by_cases h2 : 1 ≤ b ∧ b ≤ 250 <;> simp [h1, h2]
theorem isFlight_eq (a b c : Int) : impl_IsFlight.f a b c = some (flB a b c) := by
  simp only [impl_IsFlight.f, within_eq, Option.bind_some, flB, decide_eq_true_eq]
  by_cases h1 : 1 ≤ a ∧ a ≤ 100 <;> by_cases h2 : 1 ≤ b ∧ b ≤ 250 <;> simp [h1, h2]
theorem cut_mem {l : List UInt8} {b t : UInt8} (h : b ∈ l) (hne : b ≠ t) : b ∈ (Go.Lib.cut l [t]).1 ∨ b ∈ (Go.Lib.cut l [t]).2.1 := by
  by_cases c : t ∈ l
  · obtain ⟨x, y, rfl, hx⟩ := mem_parts t l c
    rw [cut_hit t x y hx]
    simp only [List.mem_append, List.mem_cons] at h
    rcases h with h | h | h
    · exact .inl h
    · exact absurd h hne
    · exact .inr h
  · rw [cut_miss t l c]; exact .inl h
def prF (l : List UInt8) : Int × Int × Int × Bool :=
  if flB (numOf (Go.Lib.cut l [114]).1) (numOf (Go.Lib.cut (Go.Lib.cut l [114]).2.1 [116]).1) (numOf (Go.Lib.cut (Go.Lib.cut l [114]).2.1 [116]).2.1) = true then
    (numOf (Go.Lib.cut l [114]).1, numOf (Go.Lib.cut (Go.Lib.cut l [114]).2.1 [116]).1, numOf (Go.Lib.cut (Go.Lib.cut l [114]).2.1 [116]).2.1, true) else (0, 0, 0, false)
theorem flB_neg2 (a c : Int) : ¬ flB a (-1) c = true := by simp only [flB, decide_eq_true_eq]; omega
theorem flB_neg3 (a b : Int) : ¬ flB a b (-1) = true := by simp only [flB, decide_eq_true_eq]; omega
open Go.Lib in
theorem parseFlight_impl (s : ByteArray) (hs : s.size ≤ 1048576) : impl_ParseFlight.f s = some (prF s.data.toList) := by
  have hz : s.data.toList.length = s.size := Array.length_toList
  have hl1 := cut_len1 s.data.toList 114
  have hl2 := cut_len2 s.data.toList 114
  have hl3 := cut_len1 (cut s.data.toList [114]).2.1 116
  have hl4 := cut_len2 (cut s.data.toList [114]).2.1 116
  unfold impl_ParseFlight.f
  rw [Cut_eq s _ hs]
  simp only [Option.bind_some]
  rw [Cut_eq _ _ (by rw [size_mk]; omega)]
  simp only [Option.bind_some, data_mk]
  rw [num_eq _ (by rw [size_mk]; omega), num_eq _ (by rw [size_mk]; omega), num_eq _ (by rw [size_mk]; omega)]
  simp only [Option.bind_some, data_mk, isFlight_eq]
  unfold prF
  split <;> rfl
open Go.Lib in
theorem parseFlight_spec (s : ByteArray) (hs : s.size ≤ 1048576) (K : Nat) (hK : 1048800 ≤ K) : spec_ParseFlight.f K s = some (prF s.data.toList) := by
  have hz : s.data.toList.length = s.size := Array.length_toList
  obtain ⟨r, hr, hm⟩ := l1Split_eq s hs 114 K (by omega)
  have hr' : spec_l1Split.f K s 114 = some r := hr
  have e : spec_ParseFlight.f K s = spec_riParse.j0 K r (decide ((s.size : Int) > 12) || ((r.length : Int) != 2)) := by
    unfold spec_ParseFlight.f spec_riParse.f
    rw [hr']
    simp only [Option.bind_some]
    by_cases c : (s.size : Int) > 12
    · rw [if_pos c, decide_eq_true c, Bool.true_or]
      cases spec_riParse.j0 K r true <;> rfl
    · rw [if_neg c, decide_eq_false c, Bool.false_or]
      cases spec_riParse.j0 K r ((r.length : Int) != 2) <;> rfl
  rw [e]
  obtain ⟨K, rfl⟩ : ∃ m, K = m + 1 := ⟨K - 1, by omega⟩
  simp only [spec_riParse.j0]
  unfold prF
  rcases spl_two 114 s.data.toList with ⟨x, y, hl, hx, hy, hspl, hcut⟩ | ⟨hne, hb⟩
  · rw [hcut]
    have hlen : s.size = x.length + y.length + 1 := by rw [← hz, hl]; simp; omega
    rw [hspl] at hm
    obtain ⟨a, b, rfl, ha, hb⟩ := two_of hm
    have hbs : b.size = y.length := by rw [← hb]; exact Array.length_toList.symm
    have e0 : rdOf ByteArray.empty [a, b] 0 = a := rfl
    have e1 : rdOf ByteArray.empty [a, b] 1 = b := rfl
    obtain ⟨r2, hr2, hm2⟩ := l1Split_eq b (by omega) 116 K (by omega)
    have hr2' : spec_l1Split.f K b 116 = some r2 := hr2
    rw [hb] at hm2
    simp only
    by_cases c : (s.size : Int) > 12
    · rw [if_pos (by rw [decide_eq_true c]; rfl), if_neg]
      intro g
      rcases spl_two 116 y with ⟨u, v, hl', hu, hv, hspl', hcut'⟩ | ⟨hne', hb'⟩
      · rw [hcut'] at g
        simp only [flB, decide_eq_true_eq] at g
        have e3 : (10 : Int) ^ (2 + 1) = 1000 := by decide
        have h1 := numOf_len (l := x) (k := 2) (by omega) (by omega)
        have h2 := numOf_len (l := u) (k := 2) (by omega) (by omega)
        have h3 := numOf_len (l := v) (k := 2) (by omega) (by omega)
        have : y.length = u.length + v.length + 1 := by rw [hl']; simp; omega
        omega
      · rw [num_many 116 (by decide) hb'] at g
        exact flB_neg3 _ _ g
    · rw [if_neg (by rw [decide_eq_false c]; simp), if_pos (by simp), e1, hr2']
      simp only [Option.bind_some]
      rcases spl_two 116 y with ⟨u, v, hl', hu, hv, hspl', hcut'⟩ | ⟨hne', hb'⟩
      · rw [hcut']
        rw [hspl'] at hm2
        obtain ⟨a2, b2, rfl, ha2, hb2⟩ := two_of hm2
        have f0 : rdOf ByteArray.empty [a2, b2] 0 = a2 := rfl
        have f1 : rdOf ByteArray.empty [a2, b2] 1 = b2 := rfl
        rw [if_pos (by simp), if_pos (by simp), e0, l1Read_eq _ K (by omega)]
        simp only [Option.bind_some]
        rw [if_pos (by simp), f0, l1Read_eq _ K (by omega)]
        simp only [Option.bind_some]
        rw [if_pos (by simp), f1, l1Read_eq _ K (by omega)]
        simp only [Option.bind_some, riGood_eq]
        rw [ha, ha2, hb2]
        split <;> rfl
      · have hlen2 : r2.length ≠ 2 := by
          have := congrArg List.length hm2
          rw [List.length_map] at this
          omega
        rw [if_neg (by omega), num_many 116 (by decide) hb', if_neg (flB_neg3 _ _)]
  · have hlen : r.length ≠ 2 := by
      have := congrArg List.length hm
      rw [List.length_map] at this
      omega
    have hlb : ((r.length : Int) != 2) = true := by simp; omega
    rw [hlb, Bool.or_true, if_pos rfl, if_neg]
    intro g
    rcases hb with hb | hb
    · rcases cut_mem hb (t := 116) (by decide) with h | h
      · rw [numOf_none h (by decide)] at g; exact flB_neg2 _ _ g
      · rw [numOf_none h (by decide)] at g; exact flB_neg3 _ _ g
    · rw [hb] at g
      exact flB_neg2 _ _ g
theorem FnExactParseFlight (a0 : ByteArray) (w0 : a0.size ≤ 140737488351232) : ∃ k, laws_FnExactParseFlight.f k a0 = some true := by
  refine ⟨1048800, ?_⟩
  unfold laws_FnExactParseFlight.f
  by_cases h : (a0.size : Int) > 1048576
  · rw [if_pos h]
  · rw [if_neg h, parseFlight_spec a0 (by omega) 1048800 (Nat.le_refl _), parseFlight_impl a0 (by omega)]
    simp [laws_eqFlight.f]
end Go.Proofs.YtbmdgmmegchmnaaDoor.Pure
