/- The plain law of FnExactParseHouse: what the reference's function tells, the program's function tells, for every input. No further condition. -/
import Derived.Test.YtbmdgmmegchmnaaDoorZph8
import Derived.Lib.ItoaNum
import Derived.Lib.ItoaLen
import Derived.Lib.AtoiAllCases
import Derived.Lib.Atoi
import Derived.Lib.Split
import Derived.Lib.SplitLaws
namespace Go.Proofs.YtbmdgmmegchmnaaDoor.Pure
open Go.RowKit Go.Proofs.YtbmdgmmegchmnaaDoor.U Go.Proofs.YtbmdgmmegchmnaaDoorW.PrintWords Go.Proofs.YtbmdgmmegchmnaaDoorW.PrintLast
set_option linter.unusedVariables false
set_option linter.unusedSimpArgs false
theorem wr {x : Int} (h0 : -9223372036854775808 ≤ x) (h1 : x ≤ 9223372036854775807) : wrap64 x = x := by
  unfold wrap64
  omega
theorem in_eq (a b c : Int) : spec_l1In.f a b c = some (decide (b ≤ a ∧ a ≤ c)) := by
  unfold spec_l1In.f
  by_cases h : a ≥ b
  · rw [if_pos h]
    simp [show b ≤ a from h]
  · rw [if_neg h]
    simp [show ¬ b ≤ a from h]
theorem within_eq (a b c : Int) : impl_within.f a b c = some (decide (b ≤ a ∧ a ≤ c)) := by
  unfold impl_within.f
  by_cases h : b ≤ a
  · rw [if_pos h]
    simp [h]
  · rw [if_neg h]
    simp [h]
theorem rd_nat (l : List Int) (i : Nat) (h : i < l.length) : rd l (i : Int) = l[i] := by simp [rd, List.getD, h]
def hsB (s d : List Int) : Bool := decide (2 ≤ (d.length : Int) ∧ (d.length : Int) ≤ 12) && (decide ((s.length : Int) + 1 = d.length) && ((s.all fun x => decide (1 ≤ x ∧ x ≤ 40)) && (d.all fun x => decide (0 ≤ x ∧ x ≤ 20))))
theorem hsB_facts {s d : List Int} (h : hsB s d = true) : 2 ≤ d.length ∧ d.length ≤ 12 ∧ s.length + 1 = d.length ∧ (∀ x ∈ s, 1 ≤ x ∧ x ≤ 40) ∧ (∀ x ∈ d, 0 ≤ x ∧ x ≤ 20) := by
  simp only [hsB, Bool.and_eq_true, List.all_eq_true, decide_eq_true_eq] at h
  exact ⟨by omega, by omega, by omega, h.2.2.1, h.2.2.2⟩
theorem all_l (lo hi : Int) (l : List Int) (hl : l.length ≤ 1000) (n : Nat) : ∀ (k i : Nat), i + n = l.length → n < k → spec_l1All.l0 k lo hi l (l.length : Int) (i : Int) = some ((l.drop i).all fun x => decide (lo ≤ x ∧ x ≤ hi)) := by
  induction n with
  | zero =>
    intro k i hd hk
    obtain ⟨k, rfl⟩ : ∃ m, k = m + 1 := ⟨k - 1, by omega⟩
    simp only [spec_l1All.l0]
    rw [if_neg (by omega), List.drop_of_length_le (by omega)]
    rfl
  | succ n ih =>
    intro k i hd hk
    obtain ⟨k, rfl⟩ : ∃ m, k = m + 1 := ⟨k - 1, by omega⟩
    have hix : i < l.length := by omega
    have ew : wrap64 ((i : Int) + 1) = ((i + 1 : Nat) : Int) := by rw [wr (by omega) (by omega)]; omega
    simp only [spec_l1All.l0, in_eq, Option.bind_some, ew, rd_nat l i hix]
    rw [if_pos (by omega), if_pos (by omega), if_pos (by omega), List.drop_eq_getElem_cons hix, List.all_cons]
    by_cases c : lo ≤ l[i] ∧ l[i] ≤ hi
    · rw [if_pos (decide_eq_true c), ih k (i + 1) (by omega) (by omega), decide_eq_true c, Bool.true_and]
    · rw [if_neg (by simpa using c), decide_eq_false c, Bool.false_and]
theorem all_val (lo hi : Int) (l : List Int) (hl : l.length ≤ 1000) (k : Nat) (hk : l.length < k) : spec_l1All.f k l lo hi = some (l.all fun x => decide (lo ≤ x ∧ x ≤ hi)) := by
  have := all_l lo hi l hl l.length k 0 (by omega) hk
  simpa [spec_l1All.f] using this
theorem any_not (p : Int → Bool) (l : List Int) : (l.any fun x => !p x) = !(l.all p) := by
  induction l with
  | nil => rfl
  | cons x t ih => simp only [List.any_cons, List.all_cons, ih, Bool.not_and]
theorem ldGood_eq (s d : List Int) (hm : d.length ≤ 4000000000) (k : Nat) (hk : 20 ≤ k) : spec_ldGood.f k s d = some (hsB s d) := by
  simp only [spec_ldGood.f, in_eq, Option.bind_some, hsB]
  rw [wr (x := (d.length : Int) - 1) (by omega) (by omega)]
  by_cases c1 : 2 ≤ (d.length : Int) ∧ (d.length : Int) ≤ 12
  · by_cases c2 : (s.length : Int) + 1 = d.length
    · rw [all_val 1 40 s (by omega) k (by omega), all_val 0 20 d (by omega) k (by omega), if_pos (decide_eq_true c1), if_pos (by omega), decide_eq_true c1, decide_eq_true c2]
      simp only [Option.bind_some, Bool.true_and]
      cases s.all fun x => decide (1 ≤ x ∧ x ≤ 40) <;> simp
    · rw [if_pos (decide_eq_true c1), if_neg (by omega), decide_eq_false c2]
      simp
  · rw [if_neg (by simpa using c1), decide_eq_false c1]
    rfl
theorem isHouse_eq (s d : List Int) (hm : d.length ≤ 4000000000) : impl_IsHouse.f s d = some (hsB s d) := by
  simp only [impl_IsHouse.f, within_eq, Option.bind_some, hsB, cf_IsHouse1.f, cf_IsHouse2.f]
  rw [wr (x := (d.length : Int) - 1) (by omega) (by omega)]
  by_cases c1 : 2 ≤ (d.length : Int) ∧ (d.length : Int) ≤ 12
  · by_cases c2 : (s.length : Int) + 1 = d.length
    · rw [if_pos (show s.length ≤ 9223372036854775807 by omega), if_pos (show d.length ≤ 9223372036854775807 by omega), if_pos (decide_eq_true c1), if_pos (by omega), decide_eq_true c1, decide_eq_true c2, any_not, any_not]
      simp only [Option.bind_some, Bool.true_and]
      cases s.all fun x => decide (1 ≤ x ∧ x ≤ 40) <;> simp
    · rw [if_pos (decide_eq_true c1), if_neg (by omega), decide_eq_false c2]
      simp
  · rw [if_neg (by simpa using c1), decide_eq_false c1]
    rfl
theorem eqI_l (l : List Int) (hl : l.length ≤ 4000000) (n : Nat) : ∀ (k : Nat) (i : Nat), i + n = l.length → n < k → laws_eqIntS.l0 k l l (i : Int) = some true := by
  induction n with
  | zero =>
    intro k i hd hk
    obtain ⟨k, rfl⟩ : ∃ m, k = m + 1 := ⟨k - 1, by omega⟩
    simp only [laws_eqIntS.l0]
    rw [if_neg (by omega)]
  | succ n ih =>
    intro k i hd hk
    obtain ⟨k, rfl⟩ : ∃ m, k = m + 1 := ⟨k - 1, by omega⟩
    have ew : wrap64 ((i : Int) + 1) = ((i + 1 : Nat) : Int) := by rw [wr (by omega) (by omega)]; omega
    simp only [laws_eqIntS.l0, ew]
    rw [if_pos (by omega), if_pos (by omega), if_pos (by omega), if_pos trivial, ih k (i + 1) (by omega) (by omega)]
theorem eqI_val (l : List Int) (hl : l.length ≤ 2000000) (k : Nat) (hk : 2000000 < k) : laws_eqIntS.f k l l = some true := by
  unfold laws_eqIntS.f
  rw [if_pos rfl]
  exact eqI_l l (by omega) l.length k 0 (by omega) (by omega)
theorem eqHouse_val (s d : List Int) (hs : s.length ≤ 1048576) (hd : d.length ≤ 1048576) (k : Nat) (hk : 2000000 < k) : laws_eqHouse.f k s d s d = some true := by
  simp only [laws_eqHouse.f, eqI_val s (by omega) k hk, eqI_val d (by omega) k hk, Option.bind_some, if_true]
def Small (l : List Int) : Prop := l.length ≤ 20 ∧ ∀ x ∈ l, 0 ≤ x ∧ x ≤ 40
theorem Small.take {l : List Int} (h : Small l) (n : Nat) : Small (l.take n) := ⟨Nat.le_trans (List.length_take_le' _ _) h.1, fun x hx => h.2 x (List.mem_of_mem_take hx)⟩
theorem Small.drop {l : List Int} (h : Small l) (n : Nat) : Small (l.drop n) := ⟨by rw [List.length_drop]; have := h.1; omega, fun x hx => h.2 x (List.mem_of_mem_drop hx)⟩
def markL : List Int → Int → List Int
  | [], _ => []
  | _ :: t, c => c :: markL t (c + 1)
theorem markL_length (l : List Int) : ∀ c, (markL l c).length = l.length := by
  induction l with
  | nil => intro c; rfl
  | cons x t ih => intro c; simp only [markL, List.length_cons, ih]
theorem mark_l (l : List Int) : ∀ (k : Nat) (pre : List Int) (c : Int), 0 ≤ c → c + l.length ≤ 100000000 → pre.length + l.length ≤ 100000000 → l.length < k → laws_markIntS.l0 k (pre ++ l) c (pre.length : Int) = some (c + l.length, pre ++ markL l c) := by
  induction l with
  | nil =>
    intro k pre c h0 h1 h2 hk
    obtain ⟨k, rfl⟩ : ∃ m, k = m + 1 := ⟨k - 1, by omega⟩
    simp only [laws_markIntS.l0, markL, List.append_nil]
    rw [if_neg (by omega)]
    simp
  | cons x t ih =>
    intro k pre c h0 h1 h2 hk
    simp only [List.length_cons] at h1 h2 hk
    obtain ⟨k, rfl⟩ : ∃ m, k = m + 1 := ⟨k - 1, by omega⟩
    have ew : wrap64 ((pre.length : Int) + 1) = ((pre.length + 1 : Nat) : Int) := by rw [wr (by omega) (by omega)]; omega
    have ec : wrap64 (c + 1) = c + 1 := wr (by omega) (by omega)
    have es : (pre ++ x :: t).set ((pre.length : Int)).toNat c = (pre ++ [c]) ++ t := by
      rw [Int.toNat_natCast, List.set_append_right _ _ (Nat.le_refl _), Nat.sub_self]
      simp
    have el : (pre ++ [c]).length = pre.length + 1 := by simp
    have := ih k (pre ++ [c]) (c + 1) (by omega) (by omega) (by omega) (by omega)
    rw [el] at this
    simp only [laws_markIntS.l0, ew, ec, es]
    rw [if_pos (by simp only [List.length_append, List.length_cons]; omega), if_pos (by omega), this]
    simp only [markL, List.length_cons, List.append_assoc, List.singleton_append]
    congr 2
    omega
theorem mark_val (l : List Int) (c : Int) (h0 : 0 ≤ c) (hc : c ≤ 20000000) (hl : l.length ≤ 2000000) (k : Nat) (hk : 2000000 < k) : laws_markIntS.f k l c = some (c + (l.length : Int), markL l c) := by
  have := mark_l l k [] c h0 (by omega) (by simp; omega) (by omega)
  simpa [laws_markIntS.f] using this
theorem held_l (l : List Int) : ∀ (k : Nat) (pre : List Int) (c : Int), 0 ≤ c → c + l.length ≤ 100000000 → pre.length + l.length ≤ 100000000 → l.length < k → laws_heldIntS.l0 k (pre ++ markL l c) c (pre.length : Int) = some (c + l.length) := by
  induction l with
  | nil =>
    intro k pre c h0 h1 h2 hk
    obtain ⟨k, rfl⟩ : ∃ m, k = m + 1 := ⟨k - 1, by omega⟩
    simp only [laws_heldIntS.l0, markL, List.append_nil]
    rw [if_neg (by omega)]
    simp
  | cons x t ih =>
    intro k pre c h0 h1 h2 hk
    simp only [List.length_cons] at h1 h2 hk
    obtain ⟨k, rfl⟩ : ∃ m, k = m + 1 := ⟨k - 1, by omega⟩
    have ew : wrap64 ((pre.length : Int) + 1) = ((pre.length + 1 : Nat) : Int) := by rw [wr (by omega) (by omega)]; omega
    have ec : wrap64 (c + 1) = c + 1 := wr (by omega) (by omega)
    have el : (pre ++ [c]).length = pre.length + 1 := by simp
    have er : rd (pre ++ markL (x :: t) c) (pre.length : Int) = c := by simp [rd, List.getD, markL]
    have := ih k (pre ++ [c]) (c + 1) (by omega) (by omega) (by omega) (by omega)
    rw [el, List.append_assoc, List.singleton_append] at this
    simp only [laws_heldIntS.l0, ew, ec, er]
    rw [if_pos (by simp only [List.length_append, markL_length, List.length_cons]; omega), if_pos (by omega), if_pos trivial]
    simp only [markL]
    rw [this]
    simp only [List.length_cons]
    congr 1
    omega
theorem held_val (l : List Int) (c : Int) (h0 : 0 ≤ c) (hc : c ≤ 20000000) (hl : l.length ≤ 2000000) (k : Nat) (hk : 2000000 < k) : laws_heldIntS.f k (markL l c) c = some (c + (l.length : Int)) := by
  have := held_l l k [] c h0 (by omega) (by simp; omega) (by omega)
  simpa [laws_heldIntS.f] using this
theorem markHouse_val (s d : List Int) (hs : s.length ≤ 1048576) (hd : d.length ≤ 1048576) (k : Nat) (hk : 2000000 < k) : laws_markHouse.f k s d 1 = some (1 + (s.length : Int) + (d.length : Int), markL s 1, markL d (1 + (s.length : Int))) := by
  simp only [laws_markHouse.f, mark_val s 1 (by omega) (by omega) (by omega) k hk, mark_val d (1 + (s.length : Int)) (by omega) (by omega) (by omega) k hk, Option.bind_some]
theorem heldHouse_val (s d : List Int) (hs : s.length ≤ 1048576) (hd : d.length ≤ 1048576) (k : Nat) (hk : 2000000 < k) : laws_heldHouse.f k (markL s 1) (markL d (1 + (s.length : Int))) 1 = some (1 + (s.length : Int) + (d.length : Int)) := by
  simp only [laws_heldHouse.f, held_val s 1 (by omega) (by omega) (by omega) k hk, Option.bind_some]
  rw [if_neg (by omega), held_val d (1 + (s.length : Int)) (by omega) (by omega) (by omega) k hk]
  simp only [Option.bind_some]
  rw [if_neg (by omega)]
section Num
open Go.Lib
theorem u8_dig (d : Nat) (h : d < 10) : (UInt8.ofNat (48 + d)).toNat = 48 + d := by
  rw [UInt8.toNat_ofNat']; exact Nat.mod_eq_of_lt (by omega)
theorem dd_step (n : Nat) (h : ¬ n < 10) : decDigits n = decDigits (n / 10) ++ [UInt8.ofNat (48 + n % 10)] := by rw [decDigits, dif_neg h]
theorem dd_len (k : Nat) : ∀ n, n < 10 ^ (k + 1) → (decDigits n).length ≤ k + 1 := by
  induction k with
  | zero => intro n h; rw [decDigits_one (by simpa using h)]; simp
  | succ k ih =>
    intro n h
    by_cases c : n < 10
    · rw [decDigits_one c]; simp
    · rw [dd_step n c, List.length_append]
      have := ih (n / 10) (by rw [Nat.pow_succ] at h; omega)
      simpa using this
theorem dd_pos (n : Nat) : 1 ≤ (decDigits n).length := by
  by_cases c : n < 10
  · rw [decDigits_one c]; simp
  · rw [dd_step n c]; simp
theorem dd_ne (n : Nat) : decDigits n ≠ [] := by intro h; have := dd_pos n; rw [h] at this; simp at this
theorem dd_digit (n : Nat) : ∀ c ∈ decDigits n, 48 ≤ c.toNat ∧ c.toNat ≤ 57 := by
  induction n using Nat.strongRecOn with
  | _ n ih =>
    intro c hc
    by_cases h : n < 10
    · rw [decDigits_one h] at hc
      obtain rfl := List.mem_singleton.1 hc
      rw [u8_dig n h]; omega
    · rw [dd_step n h, List.mem_append] at hc
      rcases hc with hc | hc
      · exact ih (n / 10) (by omega) c hc
      · obtain rfl := List.mem_singleton.1 hc
        rw [u8_dig (n % 10) (by omega)]; omega
theorem hd_app {l r : List UInt8} (h : l ≠ []) : (l ++ r).head? = l.head? := by
  cases l with
  | nil => exact absurd rfl h
  | cons _ _ => rfl
theorem dd_head (n : Nat) (h1 : 1 ≤ n) : (decDigits n).head? ≠ some 48 := by
  induction n using Nat.strongRecOn with
  | _ n ih =>
    by_cases h : n < 10
    · rw [decDigits_one h]
      intro e
      have e' : UInt8.ofNat (48 + n) = 48 := by simpa using e
      have := congrArg UInt8.toNat e'
      rw [u8_dig n h] at this
      have z : (48 : UInt8).toNat = 48 := rfl
      omega
    · rw [dd_step n h, hd_app (dd_ne _)]
      exact ih (n / 10) (by omega) (by omega)
theorem df_app (l : List UInt8) (c : UInt8) : ∀ acc, decFrom acc (l ++ [c]) = (decFrom acc l).bind fun a => (digitVal c).map fun d => a * 10 + d := by
  induction l with
  | nil => intro acc; simp only [List.nil_append, decFrom, Option.bind_some]; cases digitVal c <;> rfl
  | cons b r ih =>
    intro acc
    simp only [List.cons_append, decFrom]
    cases digitVal b with
    | none => rfl
    | some d => exact ih _
theorem dv_dig (d : Nat) (h : d < 10) : digitVal (UInt8.ofNat (48 + d)) = some d := by
  unfold digitVal; rw [u8_dig d h, if_pos (by omega)]; congr 1; omega
theorem df_dec (n : Nat) : decFrom 0 (decDigits n) = some n := by
  induction n using Nat.strongRecOn with
  | _ n ih =>
    by_cases h : n < 10
    · rw [decDigits_one h]; simp only [decFrom, dv_dig n h]; congr 1; omega
    · rw [dd_step n h, df_app, ih (n / 10) (by omega), Option.bind_some, dv_dig _ (by omega), Option.map_some]; congr 1; omega
theorem dv_back {c : UInt8} {d : Nat} (h : digitVal c = some d) : d < 10 ∧ c = UInt8.ofNat (48 + d) := by
  obtain ⟨h1, h2, h3⟩ := digitVal_eq h
  refine ⟨by omega, ?_⟩
  apply UInt8.toNat_inj.1
  rw [u8_dig d (by omega)]; omega
theorem df_canon : ∀ (k : Nat) (l : List UInt8) (m : Nat), l.length = k → l ≠ [] → (l.head? = some 48 → l.length = 1) → decFrom 0 l = some m → decDigits m = l ∧ (l.head? ≠ some 48 → 1 ≤ m)
  | 0, l, m, hk, hne, _, _ => absurd (List.eq_nil_of_length_eq_zero hk) hne
  | k + 1, l, m, hk, hne, hz, hm => by
    obtain ⟨r, c, rfl⟩ : ∃ r c, l = r ++ [c] := ⟨l.dropLast, l.getLast hne, (List.dropLast_concat_getLast hne).symm⟩
    rw [df_app] at hm
    cases hr : decFrom 0 r with
    | none => rw [hr] at hm; cases hm
    | some a =>
      rw [hr, Option.bind_some] at hm
      cases hd : digitVal c with
      | none => rw [hd] at hm; cases hm
      | some d =>
        rw [hd, Option.map_some] at hm
        obtain rfl := Option.some.inj hm
        obtain ⟨d10, rfl⟩ := dv_back hd
        by_cases e : r = []
        · subst e
          simp only [decFrom] at hr
          obtain rfl := Option.some.inj hr
          rw [show 0 * 10 + d = d by omega, decDigits_one d10]
          refine ⟨rfl, fun h => ?_⟩
          rcases Nat.eq_zero_or_pos d with z | z
          · subst z; exact absurd rfl h
          · exact z
        · have hh : (r ++ [UInt8.ofNat (48 + d)]).head? = r.head? := hd_app e
          have hr1 : 1 ≤ r.length := by cases r with | nil => exact absurd rfl e | cons _ _ => simp
          have nz : r.head? ≠ some 48 := fun h => by
            have := hz (hh.trans h)
            simp only [List.length_append, List.length_cons, List.length_nil] at this
            omega
          obtain ⟨i1, i2⟩ := df_canon k r a (by simpa using hk) e (fun h => absurd h nz) hr
          have := i2 nz
          refine ⟨?_, fun _ => by omega⟩
          rw [dd_step (a * 10 + d) (by omega), show (a * 10 + d) / 10 = a by omega, show (a * 10 + d) % 10 = d by omega, i1]
theorem pu_of_df : ∀ (l : List UInt8) (acc m : Nat), decFrom acc l = some m → l.length ≤ 8 → acc < 1000000000 * 10 ^ (8 - l.length) → parseUint10 acc l = .ok m
  | [], acc, m, h, _, _ => by simp only [decFrom] at h; obtain rfl := Option.some.inj h; rfl
  | c :: r, acc, m, h, hl, ha => by
    simp only [decFrom] at h
    cases hd : digitVal c with
    | none => rw [hd] at h; cases h
    | some d =>
      rw [hd] at h
      obtain ⟨h1, h2, h3⟩ := digitVal_eq hd
      simp only [List.length_cons] at hl ha
      have hp : 10 ^ (8 - r.length) = 10 * 10 ^ (8 - (r.length + 1)) := by
        rw [show 8 - r.length = (8 - (r.length + 1)) + 1 by omega, Nat.pow_succ]; omega
      have hb : 10 ^ (8 - (r.length + 1)) ≤ 10 ^ 7 := Nat.pow_le_pow_right (by decide) (by omega)
      have e7 : (10 : Nat) ^ 7 = 10000000 := by decide
      simp only [parseUint10]
      rw [if_pos ⟨h1, h2⟩, if_neg (by omega), if_neg (by omega), ← h3]
      exact pu_of_df r (acc * 10 + d) m h (by omega) (by rw [hp]; omega)
theorem atoi_dec (n : Nat) (h : n ≤ 999999) : atoiAll (decDigits n) = .ok (n : Int) := by
  have hl := dd_len 5 n (by omega)
  have hp : parseMag (decDigits n) = .ok n := by
    unfold parseMag
    rw [if_neg (dd_ne n)]
    exact pu_of_df _ _ _ (df_dec n) (by omega) (Nat.mul_pos (by decide) (Nat.pow_pos (by decide)))
  cases e : decDigits n with
  | nil => exact absurd e (dd_ne n)
  | cons c r =>
    have hc := dd_digit n c (by rw [e]; simp)
    rw [atoiAll_plain c r (by omega) (by omega), ← e, hp]
    simp only [signless]
    rw [if_neg (by omega)]
def numOf (l : List UInt8) : Int :=
  match atoiAll l with
  | .ok v => if v < 0 then -1 else if 999999 < v then -1 else if itoa v = l then v else -1
  | _ => -1
theorem itoa_dec (n : Nat) : itoa (n : Int) = decDigits n := by
  unfold itoa; rw [if_neg (by omega)]; rfl
theorem numOf_dec (n : Nat) (h : n ≤ 999999) : numOf (decDigits n) = n := by
  unfold numOf
  rw [atoi_dec n h]
  simp only
  rw [if_neg (by omega), if_neg (by omega), if_pos (itoa_dec n)]
theorem numOf_cases (l : List UInt8) : numOf l = -1 ∨ ∃ n : Nat, n ≤ 999999 ∧ numOf l = n ∧ l = decDigits n := by
  unfold numOf
  cases atoiAll l with
  | ok v =>
    simp only
    by_cases c1 : v < 0
    · rw [if_pos c1]; exact .inl rfl
    · rw [if_neg c1]
      by_cases c2 : 999999 < v
      · rw [if_pos c2]; exact .inl rfl
      · rw [if_neg c2]
        by_cases c3 : itoa v = l
        · rw [if_pos c3]
          obtain ⟨n, rfl⟩ : ∃ n : Nat, v = n := ⟨v.toNat, by omega⟩
          exact .inr ⟨n, by omega, rfl, by rw [← c3, itoa_dec]⟩
        · rw [if_neg c3]; exact .inl rfl
  | _ => exact .inl rfl
def readOf (l : List UInt8) : Int :=
  if 1 ≤ l.length ∧ l.length ≤ 6 ∧ (l.head? = some 48 → l.length = 1) then (match decFrom 0 l with | some m => (m : Int) | none => -1) else -1
theorem readOf_eq (l : List UInt8) : readOf l = numOf l := by
  have key : ∀ n : Nat, n ≤ 999999 → readOf (decDigits n) = n := fun n h => by
    unfold readOf
    have h1 := dd_pos n
    have h6 := dd_len 5 n (by omega)
    have hz : (decDigits n).head? = some 48 → (decDigits n).length = 1 := fun hz => by
      rcases Nat.eq_zero_or_pos n with z | z
      · subst z; rw [decDigits_one (by omega)]; rfl
      · exact absurd hz (dd_head n z)
    rw [if_pos ⟨h1, h6, hz⟩, df_dec n]
  have back : readOf l = -1 ∨ ∃ n : Nat, n ≤ 999999 ∧ l = decDigits n := by
    unfold readOf
    by_cases c : 1 ≤ l.length ∧ l.length ≤ 6 ∧ (l.head? = some 48 → l.length = 1)
    · rw [if_pos c]
      cases hm : decFrom 0 l with
      | none => exact .inl rfl
      | some m =>
        have hlt := decFrom_lt l 0 m hm
        have hp : 10 ^ l.length ≤ 10 ^ 6 := Nat.pow_le_pow_right (by decide) c.2.1
        have e6 : (10 : Nat) ^ 6 = 1000000 := by decide
        refine .inr ⟨m, by omega, ((df_canon l.length l m rfl (fun e => by rw [e] at c; simp at c) c.2.2 hm).1).symm⟩
    · rw [if_neg c]; exact .inl rfl
  rcases numOf_cases l with h | ⟨n, hn, h, rfl⟩
  · rcases back with h' | ⟨n, hn, rfl⟩
    · rw [h, h']
    · rw [numOf_dec n hn, key n hn]
  · rw [h, key n hn]
theorem numOf_none {l : List UInt8} {c : UInt8} (h : c ∈ l) (hc : c.toNat < 48 ∨ 57 < c.toNat) : numOf l = -1 := by
  rcases numOf_cases l with h' | ⟨n, hn, _, rfl⟩
  · exact h'
  · have := dd_digit n c h; omega
theorem numOf_nil : numOf [] = -1 := rfl
theorem numOf_len {l : List UInt8} {k : Nat} (hk : numOf l < 10 ^ (k + 1)) (h0 : 0 ≤ numOf l) : 1 ≤ l.length ∧ l.length ≤ k + 1 := by
  rcases numOf_cases l with h' | ⟨n, hn, e, rfl⟩
  · omega
  · exact ⟨dd_pos n, dd_len k n (by rw [e] at hk; exact_mod_cast hk)⟩
end Num
section Spl
open Go.Lib
def spl (b : UInt8) : List UInt8 → List (List UInt8)
  | [] => [[]]
  | c :: r => if c = b then [] :: spl b r else (match spl b r with | h :: t => (c :: h) :: t | [] => [[c]])
theorem spl_ne (b : UInt8) (l : List UInt8) : spl b l ≠ [] := by
  cases l with
  | nil => simp [spl]
  | cons c r => unfold spl; split <;> (try simp); split <;> simp
theorem spl_hit (b : UInt8) (y : List UInt8) : ∀ x : List UInt8, b ∉ x → spl b (x ++ b :: y) = x :: spl b y
  | [], _ => by simp [spl]
  | c :: r, h => by
    have hc : c ≠ b := fun e => h (by simp [e])
    rw [List.cons_append, spl, if_neg hc, spl_hit b y r (fun e => h (by simp [e]))]
theorem spl_miss (b : UInt8) : ∀ x : List UInt8, b ∉ x → spl b x = [x]
  | [], _ => rfl
  | c :: r, h => by
    have hc : c ≠ b := fun e => h (by simp [e])
    rw [spl, if_neg hc, spl_miss b r (fun e => h (by simp [e]))]
theorem mem_parts (b : UInt8) : ∀ l : List UInt8, b ∈ l → ∃ x y, l = x ++ b :: y ∧ b ∉ x
  | [], h => by cases h
  | c :: r, h => by
    by_cases e : c = b
    · exact ⟨[], r, by simp [e], by simp⟩
    · obtain ⟨x, y, rfl, hx⟩ := mem_parts b r (by simpa [Ne.symm e] using h)
      exact ⟨c :: x, y, rfl, by simp [hx, Ne.symm e]⟩
theorem index_hit (b : UInt8) (y : List UInt8) : ∀ x : List UInt8, b ∉ x → index (x ++ b :: y) [b] = (x.length : Int)
  | [], _ => by rw [List.nil_append, index]; simp [List.isPrefixOf]
  | c :: r, h => by
    have hc : c ≠ b := fun e => h (by simp [e])
    rw [List.cons_append, index, index_hit b y r (fun e => h (by simp [e]))]
    have hp : ([b] : List UInt8).isPrefixOf (c :: (r ++ b :: y)) = false := by simp [List.isPrefixOf, Ne.symm hc]
    rw [hp]
    have : ((r.length : Int) == -1) = false := by rw [beq_eq_false_iff_ne]; omega
    simp [this]
theorem index_miss (b : UInt8) : ∀ x : List UInt8, b ∉ x → index x [b] = -1
  | [], _ => by simp [index]
  | c :: r, h => by
    have hc : c ≠ b := fun e => h (by simp [e])
    rw [index, index_miss b r (fun e => h (by simp [e]))]
    have hp : ([b] : List UInt8).isPrefixOf (c :: r) = false := by simp [List.isPrefixOf, Ne.symm hc]
    rw [hp]; simp
theorem cut_hit (b : UInt8) (x y : List UInt8) (h : b ∉ x) : cut (x ++ b :: y) [b] = (x, y, true) := by
  unfold cut
  rw [index_hit b y x h, if_pos (by omega)]
  simp
theorem cut_miss (b : UInt8) (x : List UInt8) (h : b ∉ x) : cut x [b] = (x, [], false) := by
  unfold cut
  rw [index_miss b x h, if_neg (by omega)]
theorem splitK_eq (b : UInt8) : ∀ (k : Nat) (l : List UInt8), l.count b ≤ k → splitK [b] 0 k l = spl b l
  | 0, l, h => by
    have : b ∉ l := fun hm => by have := List.count_pos_iff.2 hm; omega
    rw [spl_miss b l this]; rfl
  | k + 1, l, h => by
    by_cases hm : b ∈ l
    · obtain ⟨x, y, rfl, hx⟩ := mem_parts b l hm
      have e := index_hit b y x hx
      rw [splitK, e, if_neg (by simp), spl_hit b y x hx]
      have ht : (x ++ b :: y).take (((x.length : Int)).toNat + 0) = x := by simp
      have hd : (x ++ b :: y).drop (((x.length : Int)).toNat + [b].length) = y := by simp
      rw [ht, hd, splitK_eq b k y (by rw [List.count_append, List.count_cons_self] at h; omega)]
    · rw [splitK, index_miss b l hm, if_pos (by rfl), spl_miss b l hm]
end Spl
section Prs
open Go.Lib
theorem bt_get (s : ByteArray) (i : Nat) (h : i < s.size) : ∃ c, s.data.toList[i]? = some c ∧ bt s (i : Int) = (c.toNat : Int) := by
  have h' : i < s.data.toList.length := by rw [Array.length_toList]; exact h
  refine ⟨s.data.toList[i], List.getElem?_eq_getElem h', ?_⟩
  unfold bt
  have e : ((i : Int)).toNat = i := Int.toNat_natCast i
  rw [dif_pos (by rw [e]; exact h)]
  simp only [e]
  rw [Array.getElem_toList]
  rfl
theorem drop_get {l : List UInt8} {i : Nat} {c : UInt8} (h : l[i]? = some c) : l.drop i = c :: l.drop (i + 1) := by
  obtain ⟨hi, rfl⟩ := List.getElem?_eq_some_iff.1 h
  exact List.drop_eq_getElem_cons hi
theorem dig_step (n c : Nat) (hn : n < 1000000) (h1 : 48 ≤ c) (h2 : c ≤ 57) : wrap64 ((wrap64 (10 * (n : Int))) + (((c : Int) - 48) % 256)) = ((n * 10 + (c - 48) : Nat) : Int) := by unfold wrap64; omega
theorem w_succ (i : Nat) (h : i < 4611686018427387904) : wrap64 ((i : Int) + 1) = ((i + 1 : Nat) : Int) := by unfold wrap64; omega
theorem l1Read_l0 (s : ByteArray) (hs : s.size ≤ 6) : ∀ (d i n K : Nat), i + d = s.size → d < K → n < 10 ^ i →
    spec_l1Read.l0 K s (n : Int) (i : Int) = some (match decFrom n (s.data.toList.drop i) with | some m => (m : Int) | none => -1)
  | 0, i, n, K, hi, hK, _ => by
    obtain ⟨K, rfl⟩ : ∃ m, K = m + 1 := ⟨K - 1, by omega⟩
    simp only [spec_l1Read.l0]
    rw [if_neg (by omega), List.drop_of_length_le (by rw [Array.length_toList]; have : s.data.size = s.size := rfl
                                                      omega)]
    rfl
  | d + 1, i, n, K, hi, hK, hn => by
    obtain ⟨K, rfl⟩ : ∃ m, K = m + 1 := ⟨K - 1, by omega⟩
    obtain ⟨c, hc, hb⟩ := bt_get s i (by omega)
    have hlt : c.toNat < 256 := c.toNat_lt
    have hp : 10 ^ i ≤ 10 ^ 6 := Nat.pow_le_pow_right (by decide) (by omega)
    have e6 : (10 : Nat) ^ 6 = 1000000 := by decide
    simp only [spec_l1Read.l0]
    rw [if_pos (by omega), if_pos (by omega), hb, drop_get hc]
    simp only [decFrom, digitVal]
    by_cases h1 : c.toNat < 48
    · rw [if_pos (by omega), if_neg (by omega)]
    · rw [if_neg (by omega)]
      by_cases h2 : 57 < c.toNat
      · rw [if_pos (by omega), if_neg (by omega)]
      · rw [if_neg (by omega), if_pos (by omega)]
        rw [dig_step n c.toNat (by omega) (by omega) (by omega), w_succ i (by omega), l1Read_l0 s hs d (i + 1) (n * 10 + (c.toNat - 48)) K (by omega) (by omega) (by rw [Nat.pow_succ]; omega)]
theorem l1Read_eq (s : ByteArray) (K : Nat) (hK : 10 ≤ K) : spec_l1Read.f K s = some (numOf s.data.toList) := by
  rw [← readOf_eq]
  obtain ⟨K, rfl⟩ : ∃ m, K = m + 1 := ⟨K - 1, by omega⟩
  have hz : s.data.toList.length = s.size := Array.length_toList
  unfold spec_l1Read.f readOf
  rw [in_eq]
  simp only [Option.bind_some]
  by_cases h : 1 ≤ s.size ∧ s.size ≤ 6
  · rw [if_pos (by rw [decide_eq_true_eq]; omega), if_pos (by omega)]
    obtain ⟨c, hc, hb⟩ := bt_get s 0 (by omega)
    have hb' : bt s 0 = (c.toNat : Int) := hb
    have hh : s.data.toList.head? = some c := by rw [List.head?_eq_getElem?]; exact hc
    have l0 := l1Read_l0 s h.2 s.size 0 0 K (by omega) (by omega) (by decide)
    simp only [List.drop_zero, Int.natCast_zero] at l0
    have l0' : spec_l1Read.l0 K s 0 0 = some (match decFrom 0 s.data.toList with | some m => (m : Int) | none => -1) := l0
    rw [hb', hh, hz]
    by_cases h0 : c = 48
    · subst h0
      rw [if_pos (by rfl)]
      simp only [spec_l1Read.j0]
      by_cases h1 : s.size = 1
      · rw [if_neg (by simp; omega), l0', if_pos ⟨h.1, h.2, fun _ => h1⟩]
      · rw [if_pos (by simp; omega), if_neg (fun e => h1 (e.2.2 (by simp)))]
    · have hne : c.toNat ≠ 48 := fun e => h0 (UInt8.toNat_inj.1 e)
      rw [if_neg (by omega)]
      simp only [spec_l1Read.j0]
      rw [if_neg (by simp), l0', if_pos ⟨h.1, h.2, fun e => absurd (Option.some.inj e) h0⟩]
  · rw [if_neg (by rw [decide_eq_true_eq]; omega)]
    simp only [spec_l1Read.j0, if_true]
    rw [if_neg (by rw [hz]; omega)]
def pre (x : List UInt8) : List (List UInt8) → List (List UInt8)
  | h :: t => (x ++ h) :: t
  | [] => [x]
theorem pre_nil {l : List (List UInt8)} (h : l ≠ []) : pre [] l = l := by
  cases l with
  | nil => exact absurd rfl h
  | cons _ _ => rfl
theorem spl_ne_cons (b c : UInt8) (r : List UInt8) (h : c ≠ b) (x : List UInt8) : pre x (spl b (c :: r)) = pre (x ++ [c]) (spl b r) := by
  rw [spl, if_neg h]
  cases e : spl b r with
  | nil => exact absurd e (spl_ne b r)
  | cons h t => simp [pre]
theorem extract_toList (s : ByteArray) (a b : Nat) : (s.extract a b).data.toList = (s.data.toList.drop a).take (b - a) := by
  rw [extract_data]
theorem l1Split_l0 (s : ByteArray) (hs : s.size ≤ 1048576) (b : UInt8) : ∀ (d i f K : Nat) (out : List ByteArray), i + d = s.size → f ≤ i → out.length ≤ i → d < K →
    ∃ r, spec_l1Split.l0 K s (b.toNat : Int) out (f : Int) (i : Int) = some r ∧ r.map (·.data.toList) = out.map (·.data.toList) ++ pre ((s.data.toList.drop f).take (i - f)) (spl b (s.data.toList.drop i))
  | 0, i, f, K, out, hi, hf, ho, hK => by
    obtain ⟨K, rfl⟩ : ∃ m, K = m + 1 := ⟨K - 1, by omega⟩
    have hz : s.data.toList.length = s.size := Array.length_toList
    simp only [spec_l1Split.l0]
    refine ⟨out ++ [s.extract f s.size], ?_, ?_⟩
    · rw [if_neg (by omega), if_pos (by omega), if_pos (by omega), if_pos (by omega), Int.toNat_natCast]
    · rw [List.drop_of_length_le (l := s.data.toList) (i := i) (by omega)]
      have : i = s.size := by omega
      simp [spl, pre, extract_toList, this]
  | d + 1, i, f, K, out, hi, hf, ho, hK => by
    obtain ⟨K, rfl⟩ : ∃ m, K = m + 1 := ⟨K - 1, by omega⟩
    obtain ⟨c, hc, hb⟩ := bt_get s i (by omega)
    have e2 := w_succ i (by omega)
    simp only [spec_l1Split.l0]
    rw [if_pos (by omega), if_pos (by omega), hb, drop_get hc]
    by_cases h : c = b
    · subst h
      obtain ⟨r, hr, hm⟩ := l1Split_l0 s hs c d (i + 1) (i + 1) K (out ++ [s.extract f i]) (by omega) (Nat.le_refl _) (by simp; omega) (by omega)
      refine ⟨r, ?_, ?_⟩
      · rw [if_pos rfl, if_pos (by omega), if_pos (by omega), if_pos (by omega), if_pos (by omega), e2, Int.toNat_natCast, Int.toNat_natCast]
        exact hr
      · rw [hm, Nat.sub_self, List.take_zero, pre_nil (spl_ne _ _), spl, if_pos rfl]
        simp [pre, extract_toList]
    · have hne : ¬ (c.toNat : Int) = (b.toNat : Int) := fun e => h (UInt8.toNat_inj.1 (by omega))
      obtain ⟨r, hr, hm⟩ := l1Split_l0 s hs b d (i + 1) f K out (by omega) (by omega) (by omega) (by omega)
      refine ⟨r, ?_, ?_⟩
      · rw [if_neg hne, e2]
        exact hr
      · rw [hm, spl_ne_cons b c _ h]
        congr 2
        rw [show i + 1 - f = (i - f) + 1 by omega, List.take_add_one, List.getElem?_drop, show f + (i - f) = i by omega, hc]
        rfl
theorem l1Split_eq (s : ByteArray) (hs : s.size ≤ 1048576) (b : UInt8) (K : Nat) (hK : 1048600 ≤ K) : ∃ r, spec_l1Split.f K s (b.toNat : Int) = some r ∧ r.map (·.data.toList) = spl b s.data.toList := by
  obtain ⟨r, hr, hm⟩ := l1Split_l0 s hs b s.size 0 0 K [] (by omega) (by omega) (by simp) (by omega)
  refine ⟨r, hr, ?_⟩
  rw [hm]
  simp [pre_nil (spl_ne _ _)]
theorem num_eq (s : ByteArray) (h : s.size ≤ 281474976710656) : impl_num.f s = some (numOf s.data.toList) := by
  unfold impl_num.f
  rw [if_pos h]
  rfl
theorem Cut_eq (s : ByteArray) (b : UInt8) (h : s.size ≤ 1048576) : strings_Cut.f s (⟨#[b]⟩ : ByteArray) = some ((⟨(cut s.data.toList [b]).1.toArray⟩ : ByteArray), (⟨(cut s.data.toList [b]).2.1.toArray⟩ : ByteArray), (cut s.data.toList [b]).2.2) := by
  unfold strings_Cut.f
  rw [if_pos (by omega)]
theorem cut_len1 (l : List UInt8) (b : UInt8) : ((cut l [b]).1).length ≤ l.length := by
  unfold cut; split
  · exact List.length_take_le' _ _
  · exact Nat.le_refl _
theorem cut_len2 (l : List UInt8) (b : UInt8) : ((cut l [b]).2.1).length ≤ l.length := by
  unfold cut; split
  · simp only [List.length_drop]; omega
  · simp
theorem size_mk (l : List UInt8) : (⟨l.toArray⟩ : ByteArray).size = l.length := by simp [ByteArray.size]
theorem two_of {r : List ByteArray} {x y : List UInt8} (h : r.map (·.data.toList) = [x, y]) : ∃ a b, r = [a, b] ∧ a.data.toList = x ∧ b.data.toList = y := by
  match r, h with
  | [a, b], h => simp at h; exact ⟨a, b, rfl, h.1, h.2⟩
theorem spl_two (b : UInt8) (l : List UInt8) : (∃ x y, l = x ++ b :: y ∧ b ∉ x ∧ b ∉ y ∧ spl b l = [x, y] ∧ cut l [b] = (x, y, true)) ∨ ((spl b l).length ≠ 2 ∧ (b ∈ (cut l [b]).2.1 ∨ (cut l [b]).2.1 = [])) := by
  by_cases h : b ∈ l
  · obtain ⟨x, y, rfl, hx⟩ := mem_parts b l h
    rw [cut_hit b x y hx, spl_hit b y x hx]
    by_cases hy : b ∈ y
    · refine .inr ⟨?_, .inl hy⟩
      obtain ⟨x', y', rfl, hx'⟩ := mem_parts b y hy
      rw [spl_hit b y' x' hx']
      have := spl_ne b y'
      cases e : spl b y' with
      | nil => exact absurd e this
      | cons _ _ => simp
    · exact .inl ⟨x, y, rfl, hx, hy, by rw [spl_miss b y hy], rfl⟩
  · rw [cut_miss b l h, spl_miss b l h]
    exact .inr ⟨by simp, .inr rfl⟩
theorem num_many (b : UInt8) (hb : b.toNat < 48 ∨ 57 < b.toNat) {l : List UInt8} (h : b ∈ l ∨ l = []) : numOf l = -1 := by
  rcases h with h | rfl
  · exact numOf_none h hb
  · exact numOf_nil
end Prs
section Txt
open Go.Lib
def nm (n : Int) : ByteArray := ⟨(itoa n).toArray⟩
theorem nm_size (n : Int) : (nm n).size = (itoa n).length := by simp [nm, ByteArray.size]
theorem nm_le (n : Int) (h0 : -9223372036854775808 ≤ n) (h1 : n ≤ 9223372036854775807) : (nm n).size ≤ 21 := by rw [nm_size]; exact itoa_length_le n h0 h1
theorem one_eq (d : Int) (h0 : 0 ≤ d) (h : d < 10) : strOfNums [(wrap64 (48 + d)) % 256] = ⟨#[UInt8.ofNat (48 + d.toNat)]⟩ := by
  have e : (wrap64 (48 + d)) % 256 = 48 + d := by unfold wrap64; omega
  rw [e]
  simp only [strOfNums, List.map_cons, List.map_nil]
  rw [show (48 + d).toNat = 48 + d.toNat by omega]
theorem l1Num_eq (k : Nat) : ∀ (n : Nat), n < 10 ^ (k + 1) → k ≤ 18 → ∀ K, k < K → spec_l1Num.f K (n : Int) = some (nm n) := by
  induction k with
  | zero =>
    intro n h _ K hK
    obtain ⟨K, rfl⟩ : ∃ m, K = m + 1 := ⟨K - 1, by omega⟩
    have h' : n < 10 := by simpa using h
    simp only [spec_l1Num.f]
    rw [if_pos (by omega), one_eq n (by omega) (by omega)]
    unfold nm
    rw [itoa_dec, decDigits_one h', Int.toNat_natCast]
  | succ k ih =>
    intro n h hk K hK
    obtain ⟨K, rfl⟩ : ∃ m, K = m + 1 := ⟨K - 1, by omega⟩
    simp only [spec_l1Num.f]
    by_cases c : n < 10
    · rw [if_pos (by omega), one_eq n (by omega) (by omega)]
      unfold nm
      rw [itoa_dec, decDigits_one c, Int.toNat_natCast]
    · have hn : n / 10 < 10 ^ (k + 1) := by rw [Nat.pow_succ] at h; omega
      have hp : 10 ^ (k + 1) ≤ 10 ^ 18 := Nat.pow_le_pow_right (by decide) (by omega)
      have e18 : (10 : Nat) ^ 18 = 1000000000000000000 := by decide
      have e1 : Int.tdiv (n : Int) 10 = ((n / 10 : Nat) : Int) := (Int.ofNat_tdiv n 10).symm
      have e2 : Int.tmod (n : Int) 10 = ((n % 10 : Nat) : Int) := (Int.ofNat_tmod n 10).symm
      have e3 : wrap64 (((n / 10 : Nat) : Int)) = ((n / 10 : Nat) : Int) := by unfold wrap64; omega
      rw [if_neg (by omega), e1, e3, ih (n / 10) hn (by omega) K (by omega), e2]
      simp only [Option.bind_some]
      rw [one_eq _ (by omega) (by omega)]
      have hl := dd_len k (n / 10) hn
      have hs : (nm ((n / 10 : Nat) : Int)).size = (decDigits (n / 10)).length := by rw [nm_size, itoa_dec]
      rw [if_pos (by rw [hs]; simp [ByteArray.size]; omega)]
      congr 1
      unfold nm
      rw [itoa_dec n, itoa_dec (n / 10), dd_step n c, Int.toNat_natCast]
      apply ByteArray.ext
      simp
theorem l1Num_int (a : Int) (h0 : 0 ≤ a) (h1 : a ≤ 1000000) (K : Nat) (hK : 20 ≤ K) : spec_l1Num.f K a = some (nm a) := by
  obtain ⟨n, rfl⟩ : ∃ n : Nat, a = n := ⟨a.toNat, by omega⟩
  exact l1Num_eq 18 n (by have e : (10 : Nat) ^ (18 + 1) = 10000000000000000000 := by decide
                          omega) (by omega) K (by omega)
theorem nm_le' (a : Int) (h0 : 0 ≤ a) (h1 : a ≤ 1000000) : (nm a).size ≤ 21 := nm_le a (by omega) (by omega)
end Txt
section Htx
open Go.Lib
def htl : List Int → List Int → List UInt8
  | a :: s, b :: d => 94 :: (itoa a ++ (58 :: (itoa b ++ htl s d)))
  | _, _ => []
def hTxt (s d : List Int) : ByteArray := ⟨(itoa (rd d 0) ++ htl s (d.drop 1)).toArray⟩
theorem ba_app (a b : List UInt8) : (⟨a.toArray⟩ : ByteArray) ++ ⟨b.toArray⟩ = ⟨(a ++ b).toArray⟩ := by
  apply ByteArray.ext; simp
theorem htx_step (x : List UInt8) (a b : Int) : (⟨x.toArray⟩ : ByteArray) ++ ((((⟨#[94]⟩ : ByteArray) ++ nm a) ++ (⟨#[58]⟩ : ByteArray)) ++ nm b) = ⟨(x ++ 94 :: (itoa a ++ (58 :: itoa b))).toArray⟩ := by
  have e1 : (⟨#[94]⟩ : ByteArray) = ⟨[94].toArray⟩ := rfl
  have e2 : (⟨#[58]⟩ : ByteArray) = ⟨[58].toArray⟩ := rfl
  unfold nm
  rw [e1, e2, ba_app, ba_app, ba_app, ba_app]
  simp
theorem specText_l0 (s d : List Int) (hl : s.length + 1 = d.length) (hd : d.length ≤ 12) (hs : ∀ x ∈ s, 1 ≤ x ∧ x ≤ 40) (hdd : ∀ x ∈ d, 0 ≤ x ∧ x ≤ 20) :
    ∀ (n i K : Nat) (x : List UInt8), i + n = s.length → n + 21 ≤ K → x.length ≤ 21 + 44 * i → spec_ldText.l0 K ⟨x.toArray⟩ s (s.length : Int) (i : Int) s d = some ⟨(x ++ htl (s.drop i) (d.drop (i + 1))).toArray⟩
  | 0, i, K, x, hi, hK, hx => by
    obtain ⟨K, rfl⟩ : ∃ m, K = m + 1 := ⟨K - 1, by omega⟩
    simp only [spec_ldText.l0]
    rw [if_neg (by omega), List.drop_of_length_le (by omega)]
    simp [htl]
  | n + 1, i, K, x, hi, hK, hx => by
    obtain ⟨K, rfl⟩ : ∃ m, K = m + 1 := ⟨K - 1, by omega⟩
    have h1 : i < s.length := by omega
    have h2 : i + 1 < d.length := by omega
    have ew : wrap64 ((i : Int) + 1) = ((i + 1 : Nat) : Int) := by rw [wr (by omega) (by omega)]; omega
    have b1 := hs s[i] (List.getElem_mem h1)
    have b2 := hdd d[i + 1] (List.getElem_mem h2)
    have z1 := nm_le' s[i] (by omega) (by omega)
    have z2 := nm_le' d[i + 1] (by omega) (by omega)
    have o1 : (⟨#[94]⟩ : ByteArray).size = 1 := rfl
    have o2 : (⟨#[58]⟩ : ByteArray).size = 1 := rfl
    have o3 : (⟨x.toArray⟩ : ByteArray).size = x.length := by simp [ByteArray.size]
    simp only [spec_ldText.l0, ew, rd_nat s i h1, rd_nat d (i + 1) h2]
    rw [if_pos (by omega), if_pos (by omega), if_pos (by omega), l1Num_int s[i] (by omega) (by omega) K (by omega), l1Num_int d[i + 1] (by omega) (by omega) K (by omega)]
    simp only [Option.bind_some, ByteArray.size_append]
    rw [if_pos (by omega), if_pos (by omega), if_pos (by omega), if_pos (by omega), if_pos (by omega), if_pos (by omega), htx_step,
      specText_l0 s d hl hd hs hdd n (i + 1) K _ (by omega) (by omega) (by
        rw [nm_size] at z1 z2
        simp only [List.length_append, List.length_cons]; omega)]
    rw [List.drop_eq_getElem_cons h1, List.drop_eq_getElem_cons h2]
    simp [htl]
theorem ldText_eq (s d : List Int) (h : hsB s d = true) (K : Nat) (hK : 100 ≤ K) : spec_ldText.f K s d = some (hTxt s d) := by
  obtain ⟨h1, h2, h3, h4, h5⟩ := hsB_facts h
  have e0 : rd d 0 = d[0] := rd_nat d 0 (by omega)
  have b := h5 d[0] (List.getElem_mem (by omega))
  have z := nm_le' d[0] (by omega) (by omega)
  rw [nm_size] at z
  unfold spec_ldText.f
  rw [if_pos (by omega), e0, l1Num_int d[0] (by omega) (by omega) K (by omega)]
  simp only [Option.bind_some]
  have := specText_l0 s d h3 h2 h4 h5 s.length 0 K (itoa d[0]) (by omega) (by omega) (by omega)
  unfold hTxt
  rw [e0]
  exact this
end Htx
section Prh
open Go.Lib
def pA (p : List UInt8) : Int := numOf (cut p [58]).1
def pB (p : List UInt8) : Int := numOf (cut p [58]).2.1
def phS (l : List UInt8) : List Int := ((spl 94 l).drop 1).map pA
def phD (l : List UInt8) : List Int := numOf ((spl 94 l).headD []) :: ((spl 94 l).drop 1).map pB
def phV (l : List UInt8) : List Int × List Int × Bool := if hsB (phS l) (phD l) = true then (phS l, phD l, true) else ([], [], false)
theorem spl_len (b : UInt8) : ∀ l : List UInt8, (spl b l).length ≤ l.length + 1
  | [] => by simp [spl]
  | c :: r => by
    have ih := spl_len b r
    unfold spl
    split
    · simp only [List.length_cons]; omega
    · split
      · next h t e => rw [e] at ih; simp only [List.length_cons] at ih ⊢; omega
      · simp
theorem spl_join (b : UInt8) : ∀ (l h : List UInt8) (t : List (List UInt8)), spl b l = h :: t → l = h ++ (t.map (b :: ·)).flatten
  | [], h, t, e => by
    simp only [spl, List.cons.injEq] at e
    obtain ⟨rfl, rfl⟩ := e
    rfl
  | c :: r, h, t, e => by
    cases e2 : spl b r with
    | nil => exact absurd e2 (spl_ne b r)
    | cons h' t' =>
      have ih := spl_join b r h' t' e2
      by_cases hc : c = b
      · rw [spl, if_pos hc] at e
        simp only [List.cons.injEq] at e
        obtain ⟨rfl, rfl⟩ := e
        rw [e2, List.map_cons, List.flatten_cons, hc, List.nil_append, List.cons_append, ← ih]
      · rw [spl, if_neg hc, e2] at e
        simp only [List.cons.injEq] at e
        obtain ⟨rfl, rfl⟩ := e
        rw [List.cons_append, ← ih]
theorem itoa_num {p : List UInt8} (h : 0 ≤ numOf p) : itoa (numOf p) = p := by
  rcases numOf_cases p with h' | ⟨n, _, e, rfl⟩
  · omega
  · rw [e, itoa_dec]
theorem part_two {p : List UInt8} (hb : 0 ≤ pB p) : (spl 58 p).length = 2 ∧ ∃ x y, p = x ++ 58 :: y ∧ 58 ∉ x ∧ 58 ∉ y ∧ spl 58 p = [x, y] ∧ pA p = numOf x ∧ pB p = numOf y := by
  rcases spl_two 58 p with ⟨x, y, hl, hx, hy, hs, hc⟩ | ⟨_, h⟩
  · exact ⟨by rw [hs]; rfl, x, y, hl, hx, hy, hs, by unfold pA; rw [hc], by unfold pB; rw [hc]⟩
  · have := num_many 58 (by decide) h
    unfold pB at hb
    omega
theorem htl_parts : ∀ ps : List (List UInt8), (∀ p ∈ ps, 0 ≤ pA p ∧ 0 ≤ pB p) → htl (ps.map pA) (ps.map pB) = (ps.map (94 :: ·)).flatten
  | [], _ => rfl
  | p :: ps, h => by
    obtain ⟨ha, hb⟩ := h p (by simp)
    obtain ⟨_, x, y, hp, _, _, _, e1, e2⟩ := part_two hb
    rw [e1] at ha; rw [e2] at hb
    rw [List.map_cons, List.map_cons, List.map_cons, List.flatten_cons, htl, htl_parts ps (fun q hq => h q (by simp [hq])), e1, e2, itoa_num ha, itoa_num hb, hp]
    simp
theorem parts_len : ∀ ps : List (List UInt8), (∀ p ∈ ps, 0 ≤ pA p ∧ pA p ≤ 40 ∧ 0 ≤ pB p ∧ pB p ≤ 20) → ((ps.map (94 :: ·)).flatten).length ≤ 6 * ps.length
  | [], _ => by simp
  | p :: ps, h => by
    obtain ⟨ha, ha2, hb, hb2⟩ := h p (by simp)
    obtain ⟨_, x, y, hp, _, _, _, e1, e2⟩ := part_two hb
    have e3 : (10 : Int) ^ (1 + 1) = 100 := by decide
    have l1 := numOf_len (l := x) (k := 1) (by omega) (by omega)
    have l2 := numOf_len (l := y) (k := 1) (by omega) (by omega)
    have := parts_len ps (fun q hq => h q (by simp [hq]))
    rw [List.map_cons, List.flatten_cons, List.length_append, hp]
    simp only [List.length_cons, List.length_append]
    omega
theorem ph_good {l : List UInt8} (h : hsB (phS l) (phD l) = true) : (hTxt (phS l) (phD l)) = ⟨l.toArray⟩ ∧ l.length ≤ 84 ∧ ∀ p ∈ (spl 94 l).drop 1, (spl 58 p).length = 2 := by
  obtain ⟨h1, h2, h3, h4, h5⟩ := hsB_facts h
  cases e : spl 94 l with
  | nil => exact absurd e (spl_ne 94 l)
  | cons p0 ps =>
    have hj := spl_join 94 l p0 ps e
    have eS : phS l = ps.map pA := by unfold phS; rw [e]; rfl
    have eD : phD l = numOf p0 :: ps.map pB := by unfold phD; rw [e]; rfl
    rw [eS] at h4 ⊢; rw [eD] at h2 h5 ⊢
    have hp : ∀ p ∈ ps, 0 ≤ pA p ∧ pA p ≤ 40 ∧ 0 ≤ pB p ∧ pB p ≤ 20 := fun p hp => by
      have a := h4 (pA p) (List.mem_map_of_mem hp)
      have b := h5 (pB p) (by simp only [List.mem_cons, List.mem_map]; exact .inr ⟨p, hp, rfl⟩)
      omega
    have h0 := h5 (numOf p0) (by simp)
    have e3 : (10 : Int) ^ (1 + 1) = 100 := by decide
    have l0 := numOf_len (l := p0) (k := 1) (by omega) (by omega)
    refine ⟨?_, ?_, fun p hpp => (part_two (hp p hpp).2.2.1).1⟩
    · unfold hTxt
      have er : rd (numOf p0 :: ps.map pB) 0 = numOf p0 := rfl
      rw [er, itoa_num (by omega), List.drop_succ_cons, List.drop_zero, htl_parts ps (fun p q => ⟨(hp p q).1, (hp p q).2.2.1⟩), ← hj]
    · rw [hj, List.length_append]
      have := parts_len ps hp
      simp only [List.length_cons, List.length_map] at h2
      omega
theorem rdOf_nat (r : List ByteArray) (i : Nat) (h : i < r.length) : rdOf ByteArray.empty r (i : Int) = r[i] := by simp [rdOf, List.getD, h]
theorem implParse_l0 (y : List ByteArray) (hy : y.length ≤ 2000000) (hz : ∀ a ∈ y, a.size ≤ 1048576) : ∀ (n i K : Nat) (s d : List Int), i + n = y.length → n < K → s.length ≤ i → d.length ≤ i + 1 →
    impl_ParseHouse.l0 K y (y.length : Int) (i : Int) s d = some (if hsB (s ++ ((y.map (·.data.toList)).drop i).map pA) (d ++ ((y.map (·.data.toList)).drop i).map pB) = true then (s ++ ((y.map (·.data.toList)).drop i).map pA, d ++ ((y.map (·.data.toList)).drop i).map pB, true) else ([], [], false))
  | 0, i, K, s, d, hi, hK, hs, hd => by
    obtain ⟨K, rfl⟩ : ∃ m, K = m + 1 := ⟨K - 1, by omega⟩
    have e : (y.map (·.data.toList)).drop i = [] := List.drop_of_length_le (by rw [List.length_map]; omega)
    simp only [impl_ParseHouse.l0]
    rw [if_neg (by omega), isHouse_eq s d (by omega), e]
    simp only [Option.bind_some, List.map_nil, List.append_nil]
    split <;> rfl
  | n + 1, i, K, s, d, hi, hK, hs, hd => by
    obtain ⟨K, rfl⟩ : ∃ m, K = m + 1 := ⟨K - 1, by omega⟩
    have h1 : i < y.length := by omega
    have hzi := hz y[i] (List.getElem_mem h1)
    have hzl : y[i].data.toList.length = y[i].size := Array.length_toList
    have c1 := cut_len1 y[i].data.toList 58
    have c2 := cut_len2 y[i].data.toList 58
    have ed : (y.map (·.data.toList)).drop i = y[i].data.toList :: (y.map (·.data.toList)).drop (i + 1) := by
      rw [List.drop_eq_getElem_cons (by rw [List.length_map]; omega), List.getElem_map]
    simp only [impl_ParseHouse.l0, w_succ i (by omega), rdOf_nat y i h1]
    rw [if_pos (by omega), if_pos (by omega), if_pos (by omega), Cut_eq _ _ hzi]
    simp only [Option.bind_some]
    rw [num_eq _ (by rw [size_mk]; omega)]
    simp only [Option.bind_some]
    rw [if_pos (by omega), num_eq _ (by rw [size_mk]; omega)]
    simp only [Option.bind_some]
    rw [if_pos (by omega), implParse_l0 y hy hz n (i + 1) K _ _ (by omega) (by omega) (by simp; omega) (by simp; omega), ed]
    simp [pA, pB]
theorem Split_eq (s : ByteArray) (b : UInt8) (h : s.size ≤ 1048576) : ∃ r, strings_Split.f s (⟨#[b]⟩ : ByteArray) = some r ∧ r.map (·.data.toList) = spl b s.data.toList := by
  refine ⟨_, by unfold strings_Split.f; rw [if_pos ⟨by omega, Nat.le_refl _⟩], ?_⟩
  rw [splitB_data]
  show splitK [b] 0 _ _ = _
  exact splitK_eq b _ _ (by
    have : countB s ⟨#[b]⟩ = count s.data.toList [b] := rfl
    rw [this, count_one]; exact Nat.le_refl _)
theorem part_size {s : ByteArray} {r : List ByteArray} {b : UInt8} (h : r.map (·.data.toList) = spl b s.data.toList) : ∀ a ∈ r, a.size ≤ s.size := fun a ha => by
  have hm : a.data.toList ∈ spl b s.data.toList := by rw [← h]; exact List.mem_map_of_mem ha
  have hz : s.data.toList.length = s.size := Array.length_toList
  have hz2 : a.data.toList.length = a.size := Array.length_toList
  cases e : spl b s.data.toList with
  | nil => exact absurd e (spl_ne b _)
  | cons p ps =>
    have hj := spl_join b _ p ps e
    rw [e] at hm
    have hlen : a.data.toList.length ≤ s.data.toList.length := by
      rw [hj, List.length_append]
      rcases List.mem_cons.1 hm with h | h
      · rw [h]; omega
      · have : (b :: a.data.toList).length ≤ ((ps.map (b :: ·)).flatten).length := (List.sublist_flatten_of_mem (List.mem_map_of_mem h)).length_le
        simp only [List.length_cons] at this
        omega
    omega
theorem parseHouse_impl (s : ByteArray) (hs : s.size ≤ 1048576) (K : Nat) (hK : 2000010 ≤ K) : impl_ParseHouse.f K s = some (phV s.data.toList) := by
  obtain ⟨r, hr, hm⟩ := Split_eq s 94 hs
  have hps := part_size hm
  have hlen := spl_len 94 s.data.toList
  have hz : s.data.toList.length = s.size := Array.length_toList
  have hl : r.length = (spl 94 s.data.toList).length := by rw [← hm, List.length_map]
  cases r with
  | nil => exact absurd hm.symm (spl_ne 94 _)
  | cons a y =>
    have ha := hps a (by simp)
    simp only [List.length_cons] at hl
    unfold impl_ParseHouse.f
    rw [hr]
    simp only [Option.bind_some, List.length_cons]
    have e0 : rdOf ByteArray.empty (a :: y) 0 = a := rfl
    rw [if_pos (by omega), e0, num_eq a (by omega)]
    simp only [Option.bind_some]
    rw [if_pos (by omega)]
    simp only [List.drop_succ_cons, List.drop_zero]
    have := implParse_l0 y (by omega) (fun b hb => Nat.le_trans (hps b (by simp [hb])) hs) y.length 0 K [] [numOf a.data.toList] (by omega) (by omega) (by simp) (by simp)
    have this' : impl_ParseHouse.l0 K y (y.length : Int) 0 [] [numOf a.data.toList] = _ := this
    rw [this']
    unfold phV phS phD
    rw [← hm]
    simp
def fin (l : List UInt8) (s d : List Int) : Option (List Int × List Int × Bool) := if hsB s d = true then some (s, d, ((hTxt s d).toList == (⟨l.toArray⟩ : ByteArray).toList)) else some (s, d, false)
theorem specParse_two (a0 : ByteArray) (r : List ByteArray) (hr : r.length ≤ 100) (hz : ∀ a ∈ r, a.size ≤ 1048576) : ∀ (n i K : Nat) (s d : List Int), 1 ≤ i → i + n = r.length → n + 1048800 ≤ K → s.length ≤ i → d.length ≤ i + 1 →
    (∀ p ∈ (r.map (·.data.toList)).drop i, (spl 58 p).length = 2) →
    spec_ldParse.l0 K a0 r (r.length : Int) (i : Int) s d = fin a0.data.toList (s ++ ((r.map (·.data.toList)).drop i).map pA) (d ++ ((r.map (·.data.toList)).drop i).map pB)
  | 0, i, K, s, d, h1i, hi, hK, hs, hd, _ => by
    obtain ⟨K, rfl⟩ : ∃ m, K = m + 1 := ⟨K - 1, by omega⟩
    have e : (r.map (·.data.toList)).drop i = [] := List.drop_of_length_le (by rw [List.length_map]; omega)
    simp only [spec_ldParse.l0]
    rw [if_neg (by omega), ldGood_eq s d (by omega) K (by omega), e]
    simp only [Option.bind_some, List.map_nil, List.append_nil, fin]
    by_cases h : hsB s d = true
    · rw [if_pos h, if_pos h, ldText_eq s d h K (by omega)]
      rfl
    · rw [if_neg h, if_neg h]
  | n + 1, i, K, s, d, h1i, hi, hK, hs, hd, h => by
    obtain ⟨K, rfl⟩ : ∃ m, K = m + 1 := ⟨K - 1, by omega⟩
    have h1 : i < r.length := by omega
    have ed : (r.map (·.data.toList)).drop i = r[i].data.toList :: (r.map (·.data.toList)).drop (i + 1) := by
      rw [List.drop_eq_getElem_cons (by rw [List.length_map]; omega), List.getElem_map]
    rw [ed] at h ⊢
    have h2 := h _ (List.mem_cons_self ..)
    obtain ⟨q, hq, hqm⟩ := l1Split_eq r[i] (hz _ (List.getElem_mem h1)) 58 K (by omega)
    have hq' : spec_l1Split.f K r[i] 58 = some q := hq
    rcases spl_two 58 r[i].data.toList with ⟨x, y, hl, hx, hy, hsp, hc⟩ | ⟨hne, _⟩
    · rw [hsp] at hqm
      obtain ⟨a, b, rfl, ha, hb⟩ := two_of hqm
      have f0 : rdOf ByteArray.empty [a, b] 0 = a := rfl
      have f1 : rdOf ByteArray.empty [a, b] 1 = b := rfl
      have ea : pA r[i].data.toList = numOf x := by unfold pA; rw [hc]
      have eb : pB r[i].data.toList = numOf y := by unfold pB; rw [hc]
      simp only [spec_ldParse.l0, w_succ i (by omega), rdOf_nat r i h1]
      rw [if_pos (by omega), if_pos (by omega), if_pos (by omega), if_neg (by omega), hq']
      simp only [Option.bind_some]
      rw [if_pos (by simp), if_pos (by simp), f0, l1Read_eq a K (by omega)]
      simp only [Option.bind_some]
      rw [if_pos (by omega), if_pos (by simp), f1, l1Read_eq b K (by omega)]
      simp only [Option.bind_some]
      rw [if_pos (by omega), specParse_two a0 r hr hz n (i + 1) K _ _ (by omega) (by omega) (by omega) (by simp; omega) (by simp; omega) (fun p hp => h p (by simp [hp])), ha, hb]
      simp [ea, eb]
    · exact absurd h2 hne
theorem specParse_not (a0 : ByteArray) (r : List ByteArray) (hr : r.length ≤ 100) (hz : ∀ a ∈ r, a.size ≤ 1048576) : ∀ (n i K : Nat) (s d : List Int), 1 ≤ i → i + n = r.length → n + 1048800 ≤ K → s.length ≤ i → d.length ≤ i + 1 →
    (∃ p ∈ (r.map (·.data.toList)).drop i, (spl 58 p).length ≠ 2) → ∃ s' d', spec_ldParse.l0 K a0 r (r.length : Int) (i : Int) s d = some (s', d', false)
  | 0, i, K, s, d, h1i, hi, hK, hs, hd, h => by
    have e : (r.map (·.data.toList)).drop i = [] := List.drop_of_length_le (by rw [List.length_map]; omega)
    rw [e] at h
    obtain ⟨p, hp, _⟩ := h
    cases hp
  | n + 1, i, K, s, d, h1i, hi, hK, hs, hd, h => by
    obtain ⟨K, rfl⟩ : ∃ m, K = m + 1 := ⟨K - 1, by omega⟩
    have h1 : i < r.length := by omega
    have ed : (r.map (·.data.toList)).drop i = r[i].data.toList :: (r.map (·.data.toList)).drop (i + 1) := by
      rw [List.drop_eq_getElem_cons (by rw [List.length_map]; omega), List.getElem_map]
    rw [ed] at h
    obtain ⟨q, hq, hqm⟩ := l1Split_eq r[i] (hz _ (List.getElem_mem h1)) 58 K (by omega)
    have hq' : spec_l1Split.f K r[i] 58 = some q := hq
    simp only [spec_ldParse.l0, w_succ i (by omega), rdOf_nat r i h1]
    rw [if_pos (by omega), if_pos (by omega), if_pos (by omega), if_neg (by omega), hq']
    simp only [Option.bind_some]
    rcases spl_two 58 r[i].data.toList with ⟨x, y, hl, hx, hy, hsp, hc⟩ | ⟨hne, _⟩
    · rw [hsp] at hqm
      obtain ⟨a, b, rfl, ha, hb⟩ := two_of hqm
      have f0 : rdOf ByteArray.empty [a, b] 0 = a := rfl
      have f1 : rdOf ByteArray.empty [a, b] 1 = b := rfl
      rw [if_pos (by simp), if_pos (by simp), f0, l1Read_eq a K (by omega)]
      simp only [Option.bind_some]
      rw [if_pos (by omega), if_pos (by simp), f1, l1Read_eq b K (by omega)]
      simp only [Option.bind_some]
      rw [if_pos (by omega)]
      refine specParse_not a0 r hr hz n (i + 1) K _ _ (by omega) (by omega) (by omega) (by simp; omega) (by simp; omega) ?_
      obtain ⟨p, hp, hpn⟩ := h
      rcases List.mem_cons.1 hp with e | e
      · rw [e, hsp] at hpn; exact absurd rfl hpn
      · exact ⟨p, e, hpn⟩
    · have : q.length ≠ 2 := by
        have := congrArg List.length hqm
        rw [List.length_map] at this
        omega
      rw [if_neg (by omega)]
      exact ⟨_, _, rfl⟩
theorem parseHouse_spec (s : ByteArray) (hs : s.size ≤ 1048576) (K : Nat) (hK : 2000010 ≤ K) : spec_ParseHouse.f K s = some (phV s.data.toList) := by
  have hz : s.data.toList.length = s.size := Array.length_toList
  unfold spec_ParseHouse.f spec_ldParse.f
  by_cases c : (s.size : Int) > 84
  · rw [if_pos c]
    simp only [Option.bind_some]
    rw [if_neg (by simp)]
    unfold phV
    rw [if_neg]
    intro h
    have := (ph_good h).2.1
    omega
  · rw [if_neg c]
    obtain ⟨r, hr, hm⟩ := l1Split_eq s hs 94 K (by omega)
    have hr' : spec_l1Split.f K s 94 = some r := hr
    have hps := part_size hm
    have hlen := spl_len 94 s.data.toList
    have hl : r.length = (spl 94 s.data.toList).length := by rw [← hm, List.length_map]
    rw [hr']
    simp only [Option.bind_some]
    cases e : r with
    | nil => rw [e] at hm; exact absurd hm.symm (spl_ne 94 _)
    | cons a y =>
      rw [e] at hl hm hps
      have ha := hps a (by simp)
      have e0 : rdOf ByteArray.empty (a :: y) 0 = a := rfl
      obtain ⟨K, rfl⟩ : ∃ m, K = m + 1 := ⟨K - 1, by omega⟩
      have w1 : wrap64 (0 + 1) = ((1 : Nat) : Int) := by unfold wrap64; omega
      have h0 : spec_ldParse.l0 (K + 1) s (a :: y) ((a :: y).length : Int) 0 [] [] = spec_ldParse.l0 K s (a :: y) ((a :: y).length : Int) ((1 : Nat) : Int) [] [numOf a.data.toList] := by
        rw [spec_ldParse.l0]
        rw [if_pos (by simp only [List.length_cons]; omega), if_pos (by omega), if_pos (by simp only [List.length_cons]; omega), if_pos rfl, e0, l1Read_eq a K (by omega), w1]
        rfl
      rw [h0]
      have eS : phS s.data.toList = [] ++ (((a :: y).map (·.data.toList)).drop 1).map pA := by unfold phS; rw [hm]; rfl
      have eD : phD s.data.toList = [numOf a.data.toList] ++ (((a :: y).map (·.data.toList)).drop 1).map pB := by unfold phD; rw [← hm]; rfl
      by_cases h : ∀ p ∈ ((a :: y).map (·.data.toList)).drop 1, (spl 58 p).length = 2
      · rw [specParse_two s (a :: y) (by omega) (fun b hb => Nat.le_trans (hps b hb) hs) y.length 1 K [] [numOf a.data.toList] (by omega) (by simp; omega) (by simp only [List.length_cons] at hl; omega) (by simp) (by simp) h, ← eS, ← eD]
        unfold fin phV
        by_cases g : hsB (phS s.data.toList) (phD s.data.toList) = true
        · rw [if_pos g, if_pos g]
          simp only [Option.bind_some]
          rw [(ph_good g).1, if_pos (by simp)]
        · rw [if_neg g, if_neg g]
          simp only [Option.bind_some]
          rw [if_neg (by simp)]
      · have h' : ∃ p ∈ ((a :: y).map (·.data.toList)).drop 1, (spl 58 p).length ≠ 2 := Classical.byContradiction fun hn => h fun p hp => Classical.byContradiction fun hq => hn ⟨p, hp, hq⟩
        obtain ⟨s', d', e'⟩ := specParse_not s (a :: y) (by omega) (fun b hb => Nat.le_trans (hps b hb) hs) y.length 1 K [] [numOf a.data.toList] (by omega) (by simp; omega) (by simp only [List.length_cons] at hl; omega) (by simp) (by simp) h'
        rw [e']
        simp only [Option.bind_some]
        rw [if_neg (by simp)]
        unfold phV
        rw [if_neg]
        intro g
        obtain ⟨p, hp, hpn⟩ := h'
        exact hpn ((ph_good g).2.2 p (by rw [← hm]; exact hp))
theorem phV_len (l : List UInt8) (h : l.length ≤ 1048576) : (phV l).1.length ≤ 1048576 ∧ (phV l).2.1.length ≤ 1048576 := by
  unfold phV
  by_cases g : hsB (phS l) (phD l) = true
  · rw [if_pos g]
    obtain ⟨h1, h2, h3, _⟩ := hsB_facts g
    exact ⟨by simp only; omega, by simp only; omega⟩
  · rw [if_neg g]; simp
end Prh
theorem FnExactParseHouse (a0 : ByteArray) (w0 : a0.size ≤ 140737488351232) : ∃ k, laws_FnExactParseHouse.f k a0 = some true := by
  by_cases hb : (a0.size : Int) > 1048576
  · exact ⟨0, by unfold laws_FnExactParseHouse.f; rw [if_pos hb]⟩
  · have hz : a0.data.toList.length = a0.size := Array.length_toList
    obtain ⟨hp, hq⟩ := phV_len a0.data.toList (by omega)
    have main : ∀ m : Nat, 2000020 ≤ m → laws_FnExactParseHouse.f (m + 3) a0 = some true := by
      intro m hm
      have e3s := parseHouse_spec a0 (by omega) (m + 3) (by omega)
      have e3i := parseHouse_impl a0 (by omega) (m + 3) (by omega)
      have e2i := parseHouse_impl a0 (by omega) (m + 2) (by omega)
      generalize phV a0.data.toList = v at *
      obtain ⟨p, q, b⟩ := v
      simp only at hp hq
      simp only [laws_FnExactParseHouse.f, laws_FnExactParseHouse.j0, laws_FnExactParseHouse.j1, if_neg hb, e3s, e3i, e2i, Option.bind_some, eqHouse_val p q hp hq (m + 3) (by omega), eqHouse_val p q hp hq (m + 2) (by omega), markHouse_val p q hp hq (m + 2) (by omega), heldHouse_val p q hp hq (m + 2) (by omega), heldHouse_val p q hp hq (m + 1) (by omega), bne_self_eq_false, if_true, Bool.false_eq_true, if_false]
      rw [if_neg (by omega), if_neg (by omega)]
    exact ⟨2000020 + 3, main 2000020 (Nat.le_refl _)⟩
end Go.Proofs.YtbmdgmmegchmnaaDoor.Pure
