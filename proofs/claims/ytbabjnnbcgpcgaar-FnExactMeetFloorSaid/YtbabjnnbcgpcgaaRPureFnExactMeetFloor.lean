/- Plain laws of this session, with its shared lemmas laid in. -/
import Derived.Test.YtbabjnnbcgpcgaaRHx51
import Derived.Test.YtbabjnnbcgpcgaaRHx1
import Derived.Test.YtbabjnnbcgpcgaaRHx11
import Derived.Test.YtbabjnnbcgpcgaaRHx12
import Derived.Test.YtbabjnnbcgpcgaaRHx13
import Derived.Test.YtbabjnnbcgpcgaaRHx16
import Derived.Test.YtbabjnnbcgpcgaaRHx17
import Derived.Test.YtbabjnnbcgpcgaaRHx19
import Derived.Test.YtbabjnnbcgpcgaaRHx2
import Derived.Test.YtbabjnnbcgpcgaaRHx20
import Derived.Test.YtbabjnnbcgpcgaaRHx3
import Derived.Test.YtbabjnnbcgpcgaaRHx4
import Derived.Test.YtbabjnnbcgpcgaaRHx5
import Derived.Test.YtbabjnnbcgpcgaaRHx30
import Derived.Test.YtbabjnnbcgpcgaaRHx7
import Derived.Test.YtbabjnnbcgpcgaaRHx31
import Derived.Test.YtbabjnnbcgpcgaaRHx8
import Derived.Test.YtbabjnnbcgpcgaaRHx35
import Derived.Test.YtbabjnnbcgpcgaaRHx36
import Derived.Test.YtbabjnnbcgpcgaaRHx39
import Derived.Test.YtbabjnnbcgpcgaaRHx40
section
/- Plain lemmas on the functions of houses: what the printed functions of the program and of the reference tell, at every list that they are asked at here. No further condition. -/
namespace Go.Proofs.YtbabjnnbcgpcgaaR.Pure
open Go.RowKit Go.Proofs.YtbabjnnbcgpcgaaR.H Go.Proofs.YtbabjnnbcgpcgaaRW.PrintWords Go.Proofs.YtbabjnnbcgpcgaaRW.PrintLast Go.Proofs.YtbabjnnbcgpcgaaRW.PrintMore
set_option linter.unusedVariables false
set_option linter.unusedSimpArgs false

theorem wr {x : Int} (h0 : -9223372036854775808 ≤ x) (h1 : x ≤ 9223372036854775807) : wrap64 x = x := by
  unfold wrap64
  omega
theorem in_eq (a b c : Int) : spec_l1In.f a b c = some (decide (b ≤ a ∧ a ≤ c)) := by
  unfold spec_l1In.f
  by_cases h : a ≥ b
  · rw [if_pos h]
    simp [show b ≤ a from h]
  · rw [if_neg h]
    simp [show ¬ b ≤ a from h]
theorem within_eq (a b c : Int) : impl_within.f a b c = some (decide (b ≤ a ∧ a ≤ c)) := by
  unfold impl_within.f
  by_cases h : b ≤ a
  · rw [if_pos h]
    simp [h]
  · rw [if_neg h]
    simp [h]
theorem rd_nat (l : List Int) (i : Nat) (h : i < l.length) : rd l (i : Int) = l[i] := by simp [rd, List.getD, h]
/-- A house: what both functions ask. -/
def hsB (s d : List Int) : Bool := decide (2 ≤ (d.length : Int) ∧ (d.length : Int) ≤ 12) && (decide ((s.length : Int) + 1 = d.length) && ((s.all fun x => decide (1 ≤ x ∧ x ≤ 40)) && (d.all fun x => decide (0 ≤ x ∧ x ≤ 20))))
theorem hsB_facts {s d : List Int} (h : hsB s d = true) : 2 ≤ d.length ∧ d.length ≤ 12 ∧ s.length + 1 = d.length ∧ (∀ x ∈ s, 1 ≤ x ∧ x ≤ 40) ∧ (∀ x ∈ d, 0 ≤ x ∧ x ≤ 20) := by
  simp only [hsB, Bool.and_eq_true, List.all_eq_true, decide_eq_true_eq] at h
  exact ⟨by omega, by omega, by omega, h.2.2.1, h.2.2.2⟩
theorem all_l (lo hi : Int) (l : List Int) (hl : l.length ≤ 1000) (n : Nat) : ∀ (k i : Nat), i + n = l.length → n < k → spec_l1All.l0 k lo hi l (l.length : Int) (i : Int) = some ((l.drop i).all fun x => decide (lo ≤ x ∧ x ≤ hi)) := by
  induction n with
  | zero =>
    intro k i hd hk
    obtain ⟨k, rfl⟩ : ∃ m, k = m + 1 := ⟨k - 1, by omega⟩
    simp only [spec_l1All.l0]
    rw [if_neg (by omega), List.drop_of_length_le (by omega)]
    rfl
  | succ n ih =>
    intro k i hd hk
    obtain ⟨k, rfl⟩ : ∃ m, k = m + 1 := ⟨k - 1, by omega⟩
    have hix : i < l.length := by omega
    have ew : wrap64 ((i : Int) + 1) = ((i + 1 : Nat) : Int) := by rw [wr (by omega) (by omega)]; omega
    simp only [spec_l1All.l0, in_eq, Option.bind_some, ew, rd_nat l i hix]
    rw [if_pos (by omega), if_pos (by omega), if_pos (by omega), List.drop_eq_getElem_cons hix, List.all_cons]
    by_cases c : lo ≤ l[i] ∧ l[i] ≤ hi
    · rw [if_pos (decide_eq_true c), ih k (i + 1) (by omega) (by omega), decide_eq_true c, Bool.true_and]
    · rw [if_neg (by simpa using c), decide_eq_false c, Bool.false_and]
theorem all_val (lo hi : Int) (l : List Int) (hl : l.length ≤ 1000) (k : Nat) (hk : l.length < k) : spec_l1All.f k l lo hi = some (l.all fun x => decide (lo ≤ x ∧ x ≤ hi)) := by
  have := all_l lo hi l hl l.length k 0 (by omega) hk
  simpa [spec_l1All.f] using this
theorem any_not (p : Int → Bool) (l : List Int) : (l.any fun x => !p x) = !(l.all p) := by
  induction l with
  | nil => rfl
  | cons x t ih => simp only [List.any_cons, List.all_cons, ih, Bool.not_and]
theorem ldGood_eq (s d : List Int) (hm : d.length ≤ 4000000000) (k : Nat) (hk : 20 ≤ k) : spec_ldGood.f k s d = some (hsB s d) := by
  simp only [spec_ldGood.f, in_eq, Option.bind_some, hsB]
  rw [wr (x := (d.length : Int) - 1) (by omega) (by omega)]
  by_cases c1 : 2 ≤ (d.length : Int) ∧ (d.length : Int) ≤ 12
  · by_cases c2 : (s.length : Int) + 1 = d.length
    · rw [all_val 1 40 s (by omega) k (by omega), all_val 0 20 d (by omega) k (by omega), if_pos (decide_eq_true c1), if_pos (by omega), decide_eq_true c1, decide_eq_true c2]
      simp only [Option.bind_some, Bool.true_and]
      cases s.all fun x => decide (1 ≤ x ∧ x ≤ 40) <;> simp
    · rw [if_pos (decide_eq_true c1), if_neg (by omega), decide_eq_false c2]
      simp
  · rw [if_neg (by simpa using c1), decide_eq_false c1]
    rfl
theorem isHouse_eq (s d : List Int) (hm : d.length ≤ 4000000000) : impl_IsHouse.f s d = some (hsB s d) := by
  simp only [impl_IsHouse.f, within_eq, Option.bind_some, hsB, cf_IsHouse1.f, cf_IsHouse2.f]
  rw [wr (x := (d.length : Int) - 1) (by omega) (by omega)]
  by_cases c1 : 2 ≤ (d.length : Int) ∧ (d.length : Int) ≤ 12
  · by_cases c2 : (s.length : Int) + 1 = d.length
    · rw [if_pos (show s.length ≤ 9223372036854775807 by omega), if_pos (show d.length ≤ 9223372036854775807 by omega), if_pos (decide_eq_true c1), if_pos (by omega), decide_eq_true c1, decide_eq_true c2, any_not, any_not]
      simp only [Option.bind_some, Bool.true_and]
      cases s.all fun x => decide (1 ≤ x ∧ x ≤ 40) <;> simp
    · rw [if_pos (decide_eq_true c1), if_neg (by omega), decide_eq_false c2]
      simp
  · rw [if_neg (by simpa using c1), decide_eq_false c1]
    rfl
/-- The size that the laws ask. -/
theorem sz_val (s d : List Int) (hs : s.length ≤ maxLen) (hd : d.length ≤ maxLen) : (s.length ≤ 1048576 ∧ d.length ≤ 1048576 ∧ ∃ n : Int, laws_szHouse.f s d 1048576 = some n ∧ ¬ n < 0) ∨ ∃ n : Int, laws_szHouse.f s d 1048576 = some n ∧ n < 0 := by
  unfold maxLen at hs hd
  simp only [laws_szHouse.f, laws_szIntS.f]
  rw [wr (x := (1048576 : Int) - (s.length : Int)) (by omega) (by omega)]
  by_cases c : (1048576 : Int) - (s.length : Int) < 0
  · rw [if_pos c]
    exact .inr ⟨-1, rfl, by omega⟩
  · rw [if_neg c]
    simp only [Option.bind_some]
    rw [if_neg c, wr (x := (1048576 : Int) - (s.length : Int) - (d.length : Int)) (by omega) (by omega)]
    by_cases c2 : (1048576 : Int) - (s.length : Int) - (d.length : Int) < 0
    · rw [if_pos c2]
      exact .inr ⟨-1, rfl, by omega⟩
    · rw [if_neg c2]
      simp only [Option.bind_some]
      rw [if_neg c2]
      exact .inl ⟨by omega, by omega, _, rfl, c2⟩
theorem toI_l (l : List Int) (t : List Int) : ∀ (k : Nat) (pre : List Int), l = pre ++ t → l.length ≤ 2000000 → t.length < k → laws_toIntS.l0 k l (pre ++ List.replicate t.length 0) (pre.length : Int) = some l := by
  induction t with
  | nil =>
    intro k pre e hl hk
    obtain ⟨k, rfl⟩ : ∃ m, k = m + 1 := ⟨k - 1, by omega⟩
    subst e
    simp only [laws_toIntS.l0, List.length_nil, List.replicate_zero, List.append_nil]
    rw [if_neg (by omega)]
  | cons x t ih =>
    intro k pre e hl hk
    simp only [List.length_cons] at hk
    obtain ⟨k, rfl⟩ : ∃ m, k = m + 1 := ⟨k - 1, by omega⟩
    have hlen : l.length = pre.length + (t.length + 1) := by rw [e]; simp
    have ew : wrap64 ((pre.length : Int) + 1) = ((pre.length + 1 : Nat) : Int) := by rw [wr (by omega) (by omega)]; omega
    have er : rd l (pre.length : Int) = x := by rw [e]; simp [rd, List.getD]
    have es : (pre ++ List.replicate (t.length + 1) (0 : Int)).set ((pre.length : Int)).toNat x = (pre ++ [x]) ++ List.replicate t.length 0 := by
      rw [Int.toNat_natCast, List.set_append_right _ _ (Nat.le_refl _), Nat.sub_self, List.replicate_succ]
      simp
    have := ih k (pre ++ [x]) (by rw [e]; simp) hl (by omega)
    rw [show (pre ++ [x]).length = pre.length + 1 by simp] at this
    simp only [laws_toIntS.l0, List.length_cons, ew, er, es]
    rw [if_pos (by omega), if_pos (by omega), if_pos (by simp only [List.length_append, List.length_replicate]; omega), this]
theorem toI_val (l : List Int) (hl : l.length ≤ 2000000) (k : Nat) (hk : 2000000 < k) : laws_toIntS.f k l = some l := by
  have := toI_l l l k [] rfl hl (by omega)
  simp only [laws_toIntS.f, Int.toNat_natCast]
  rw [if_pos (by omega), if_pos (by omega)]
  simpa using this
theorem toHouse_val (s d : List Int) (hs : s.length ≤ 1048576) (hd : d.length ≤ 1048576) (k : Nat) (hk : 2000000 < k) : laws_toHouse.f k s d = some (s, d) := by
  simp only [laws_toHouse.f, toI_val s (by omega) k hk, toI_val d (by omega) k hk, Option.bind_some]
theorem eqI_l (l : List Int) (hl : l.length ≤ 4000000) (n : Nat) : ∀ (k : Nat) (i : Nat), i + n = l.length → n < k → laws_eqIntS.l0 k l l (i : Int) = some true := by
  induction n with
  | zero =>
    intro k i hd hk
    obtain ⟨k, rfl⟩ : ∃ m, k = m + 1 := ⟨k - 1, by omega⟩
    simp only [laws_eqIntS.l0]
    rw [if_neg (by omega)]
  | succ n ih =>
    intro k i hd hk
    obtain ⟨k, rfl⟩ : ∃ m, k = m + 1 := ⟨k - 1, by omega⟩
    have ew : wrap64 ((i : Int) + 1) = ((i + 1 : Nat) : Int) := by rw [wr (by omega) (by omega)]; omega
    simp only [laws_eqIntS.l0, ew]
    rw [if_pos (by omega), if_pos (by omega), if_pos (by omega), if_pos trivial, ih k (i + 1) (by omega) (by omega)]
theorem eqI_val (l : List Int) (hl : l.length ≤ 2000000) (k : Nat) (hk : 2000000 < k) : laws_eqIntS.f k l l = some true := by
  unfold laws_eqIntS.f
  rw [if_pos rfl]
  exact eqI_l l (by omega) l.length k 0 (by omega) (by omega)
theorem eqHouse_val (s d : List Int) (hs : s.length ≤ 1048576) (hd : d.length ≤ 1048576) (k : Nat) (hk : 2000000 < k) : laws_eqHouse.f k s d s d = some true := by
  simp only [laws_eqHouse.f, eqI_val s (by omega) k hk, eqI_val d (by omega) k hk, Option.bind_some, if_true]
/-- Sums of few small numbers. -/
def isum : List Int → Int
  | [] => 0
  | x :: t => x + isum t
theorem isum_append (a b : List Int) : isum (a ++ b) = isum a + isum b := by
  induction a with
  | nil => simp [isum]
  | cons x t ih => simp only [List.cons_append, isum, ih]; omega
def Small (l : List Int) : Prop := l.length ≤ 20 ∧ ∀ x ∈ l, 0 ≤ x ∧ x ≤ 40
theorem isum_bd (l : List Int) (h : ∀ x ∈ l, 0 ≤ x ∧ x ≤ 40) : 0 ≤ isum l ∧ isum l ≤ 40 * l.length := by
  induction l with
  | nil => simp [isum]
  | cons x t ih =>
    have h1 := h x (by simp)
    have h2 := ih (fun y hy => h y (by simp [hy]))
    simp only [isum, List.length_cons]
    omega
theorem Small.bd {l : List Int} (h : Small l) : 0 ≤ isum l ∧ isum l ≤ 800 := by
  have := isum_bd l h.2
  have := h.1
  omega
theorem Small.take {l : List Int} (h : Small l) (n : Nat) : Small (l.take n) := ⟨Nat.le_trans (List.length_take_le' _ _) h.1, fun x hx => h.2 x (List.mem_of_mem_take hx)⟩
theorem Small.drop {l : List Int} (h : Small l) (n : Nat) : Small (l.drop n) := ⟨by rw [List.length_drop]; have := h.1; omega, fun x hx => h.2 x (List.mem_of_mem_drop hx)⟩
theorem small_s {s d : List Int} (h : hsB s d = true) : Small s := by
  have f := hsB_facts h
  exact ⟨by omega, fun x hx => by have := f.2.2.2.1 x hx; omega⟩
theorem small_d {s d : List Int} (h : hsB s d = true) : Small d := by
  have f := hsB_facts h
  exact ⟨by omega, fun x hx => by have := f.2.2.2.2 x hx; omega⟩

end Go.Proofs.YtbabjnnbcgpcgaaR.Pure
end

section
/- Plain lemmas on the functions of houses: what the printed functions of the program and of the reference tell, at every list that they are asked at here. No further condition. -/
namespace Go.Proofs.YtbabjnnbcgpcgaaR.Pure
open Go.RowKit Go.Proofs.YtbabjnnbcgpcgaaR.H Go.Proofs.YtbabjnnbcgpcgaaRW.PrintWords Go.Proofs.YtbabjnnbcgpcgaaRW.PrintLast Go.Proofs.YtbabjnnbcgpcgaaRW.PrintMore
set_option linter.unusedVariables false
set_option linter.unusedSimpArgs false

theorem sum_l (l : List Int) (hl : Small l) (n : Nat) : ∀ (k i : Nat) (a : Int), i + n = l.length → n < k → 0 ≤ a → a ≤ 40 * i → impl_sum.l0 k a l (l.length : Int) (i : Int) = some (a + isum (l.drop i)) := by
  have h20 := hl.1
  induction n with
  | zero =>
    intro k i a hd hk h0 h1
    obtain ⟨k, rfl⟩ : ∃ m, k = m + 1 := ⟨k - 1, by omega⟩
    simp only [impl_sum.l0]
    rw [if_neg (by omega), List.drop_of_length_le (by omega)]
    simp [isum]
  | succ n ih =>
    intro k i a hd hk h0 h1
    obtain ⟨k, rfl⟩ : ∃ m, k = m + 1 := ⟨k - 1, by omega⟩
    have hi : i < l.length := by omega
    have hb := hl.2 l[i] (List.getElem_mem hi)
    have ew : wrap64 ((i : Int) + 1) = ((i + 1 : Nat) : Int) := by rw [wr (by omega) (by omega)]; omega
    have ea : wrap64 (a + l[i]) = a + l[i] := wr (by omega) (by omega)
    simp only [impl_sum.l0, ew, rd_nat l i hi, ea]
    rw [if_pos (by omega), if_pos (by omega), if_pos (by omega), ih k (i + 1) _ (by omega) (by omega) (by omega) (by omega), List.drop_eq_getElem_cons hi]
    simp only [isum]
    congr 1
    omega
theorem sum_val (l : List Int) (hl : Small l) (k : Nat) (hk : 21 ≤ k) : impl_sum.f k l = some (isum l) := by
  have h20 := hl.1
  have := sum_l l hl l.length k 0 0 (by omega) (by omega) (by omega) (by omega)
  simpa [impl_sum.f] using this
theorem ldSum_l (l : List Int) (hl : Small l) (n : Nat) : ∀ (k i : Nat) (a : Int), i + n = l.length → n < k → 0 ≤ a → a ≤ 40 * i → spec_ldSum.l0 k a l (l.length : Int) (i : Int) = some (a + isum (l.drop i)) := by
  have h20 := hl.1
  induction n with
  | zero =>
    intro k i a hd hk h0 h1
    obtain ⟨k, rfl⟩ : ∃ m, k = m + 1 := ⟨k - 1, by omega⟩
    simp only [spec_ldSum.l0]
    rw [if_neg (by omega), List.drop_of_length_le (by omega)]
    simp [isum]
  | succ n ih =>
    intro k i a hd hk h0 h1
    obtain ⟨k, rfl⟩ : ∃ m, k = m + 1 := ⟨k - 1, by omega⟩
    have hi : i < l.length := by omega
    have hb := hl.2 l[i] (List.getElem_mem hi)
    have ew : wrap64 ((i : Int) + 1) = ((i + 1 : Nat) : Int) := by rw [wr (by omega) (by omega)]; omega
    have ea : wrap64 (a + l[i]) = a + l[i] := wr (by omega) (by omega)
    simp only [spec_ldSum.l0, ew, rd_nat l i hi, ea]
    rw [if_pos (by omega), if_pos (by omega), if_pos (by omega), ih k (i + 1) _ (by omega) (by omega) (by omega) (by omega), List.drop_eq_getElem_cons hi]
    simp only [isum]
    congr 1
    omega
theorem ldSum_val (l : List Int) (hl : Small l) (k : Nat) (hk : 21 ≤ k) : spec_ldSum.f k l = some (isum l) := by
  have h20 := hl.1
  have := ldSum_l l hl l.length k 0 0 (by omega) (by omega) (by omega) (by omega)
  simpa [spec_ldSum.f] using this

end Go.Proofs.YtbabjnnbcgpcgaaR.Pure
end

section
/- Plain lemmas on the functions of houses: what the printed functions of the program and of the reference tell, at every list that they are asked at here. No further condition. -/
namespace Go.Proofs.YtbabjnnbcgpcgaaR.Pure
open Go.RowKit Go.Proofs.YtbabjnnbcgpcgaaR.H Go.Proofs.YtbabjnnbcgpcgaaRW.PrintWords Go.Proofs.YtbabjnnbcgpcgaaRW.PrintLast Go.Proofs.YtbabjnnbcgpcgaaRW.PrintMore
set_option linter.unusedVariables false
set_option linter.unusedSimpArgs false

theorem isum_cut (l : List Int) (m M : Nat) (h : m ≤ M) : isum ((l.take M).drop m) = isum (l.take M) - isum (l.take m) := by
  have e := List.take_append_drop m (l.take M)
  have e2 : (l.take M).take m = l.take m := by rw [List.take_take, Nat.min_eq_left h]
  rw [e2] at e
  have := isum_append (l.take m) ((l.take M).drop m)
  rw [e] at this
  omega
theorem between_val (s d : List Int) (h : hsB s d = true) (a b : Int) (ha : 0 ≤ a ∧ a ≤ (s.length : Int)) (hb : 0 ≤ b ∧ b ≤ (s.length : Int)) (k : Nat) (hk : 21 ≤ k) :
    impl_House_between.f k s d a b = some (isum (s.take (mx a b).toNat) - isum (s.take (mn a b).toNat)) ∧ 0 ≤ isum (s.take (mx a b).toNat) - isum (s.take (mn a b).toNat) := by
  have hm : 0 ≤ mn a b ∧ mn a b ≤ mx a b ∧ mx a b ≤ (s.length : Int) := by
    unfold mn mx
    split <;> split <;> omega
  have hsm := ((small_s h).take (mx a b).toNat).drop (mn a b).toNat
  rw [← isum_cut s _ _ (by omega)]
  refine ⟨?_, hsm.bd.1⟩
  simp only [impl_House_between.f]
  rw [if_pos hm.1, if_pos hm.2.1, if_pos hm.2.2, sum_val _ hsm k hk]
  rfl
theorem ldTo_val (s d : List Int) (h : hsB s d = true) (a : Int) (ha : 0 ≤ a ∧ a ≤ (s.length : Int)) (k : Nat) (hk : 21 ≤ k) : spec_ldTo.f k s d a = some (isum (s.take a.toNat)) := by
  simp only [spec_ldTo.f]
  rw [if_pos ha.1, if_pos ha.2, ldSum_val _ ((small_s h).take _) k hk]
  rfl

end Go.Proofs.YtbabjnnbcgpcgaaR.Pure
end

section
/- Plain lemmas on the functions of houses: what the printed functions of the program and of the reference tell, at every list that they are asked at here. No further condition. -/
namespace Go.Proofs.YtbabjnnbcgpcgaaR.Pure
open Go.RowKit Go.Proofs.YtbabjnnbcgpcgaaR.H Go.Proofs.YtbabjnnbcgpcgaaRW.PrintWords Go.Proofs.YtbabjnnbcgpcgaaRW.PrintLast Go.Proofs.YtbabjnnbcgpcgaaRW.PrintMore
set_option linter.unusedVariables false
set_option linter.unusedSimpArgs false

/-- The floor of a door: how many lists of doors come before it. -/
def fl : List Int → Int → Nat → Nat
  | [], _, i => i
  | x :: t, st, i => if st > x then fl t (st - x) (i + 1) else i
theorem floorOf_l (s l : List Int) (hl : Small l) (n : Nat) : ∀ (k i : Nat) (st : Int), i + n = l.length → n < k → 1 ≤ st → st ≤ isum (l.drop i) → impl_House_floorOf.l0 k st (i : Int) s l = some ((fl (l.drop i) st i : Nat) : Int) := by
  have h20 := hl.1
  induction n with
  | zero =>
    intro k i st hd hk h0 h1
    rw [List.drop_of_length_le (by omega)] at h1
    simp only [isum] at h1
    omega
  | succ n ih =>
    intro k i st hd hk h0 h1
    obtain ⟨k, rfl⟩ : ∃ m, k = m + 1 := ⟨k - 1, by omega⟩
    have hi : i < l.length := by omega
    have hb := hl.2 l[i] (List.getElem_mem hi)
    have hsb := (hl.drop i).bd
    rw [List.drop_eq_getElem_cons hi] at h1 ⊢
    simp only [isum] at h1
    have ew : wrap64 ((i : Int) + 1) = ((i + 1 : Nat) : Int) := by rw [wr (by omega) (by omega)]; omega
    have es : wrap64 (st - l[i]) = st - l[i] := by
      have := (hl.drop (i + 1)).bd
      exact wr (by omega) (by omega)
    simp only [impl_House_floorOf.l0, ew, rd_nat l i hi, es, fl]
    rw [if_pos (by omega), if_pos (by omega)]
    by_cases c : st > l[i]
    · rw [if_pos c, if_pos c, ih k (i + 1) _ (by omega) (by omega) (by omega) (by omega)]
    · rw [if_neg c, if_neg c]
theorem floorOf_val (s l : List Int) (hl : Small l) (st : Int) (h : 1 ≤ st ∧ st ≤ isum l) (k : Nat) (hk : 21 ≤ k) : impl_House_floorOf.f k s l st = some ((fl l st 0 : Nat) : Int) := by
  have h20 := hl.1
  have := floorOf_l s l hl l.length k 0 st (by omega) (by omega) h.1 (by simpa using h.2)
  simpa [impl_House_floorOf.f] using this
theorem ldOf_l : ∀ (k : Nat) (st i : Int) (s l : List Int), spec_ldOf.l0 k st i s l = impl_House_floorOf.l0 k st i s l := by
  intro k
  induction k with
  | zero => intros; rfl
  | succ k ih =>
    intro st i s l
    simp only [spec_ldOf.l0, impl_House_floorOf.l0, ih]
theorem ldOf_eq (k : Nat) (s l : List Int) (st : Int) : spec_ldOf.f k s l st = impl_House_floorOf.f k s l st := by
  simp only [spec_ldOf.f, impl_House_floorOf.f, ldOf_l]
theorem fl_lt (l : List Int) : ∀ (st : Int) (i : Nat), 1 ≤ st → st ≤ isum l → i ≤ fl l st i ∧ fl l st i < i + l.length := by
  induction l with
  | nil => intro st i h1 h2; simp only [isum] at h2; omega
  | cons x t ih =>
    intro st i h1 h2
    simp only [isum] at h2
    simp only [fl, List.length_cons]
    split
    · have := ih (st - x) (i + 1) (by omega) (by omega)
      omega
    · omega
theorem fl_ge (l : List Int) : ∀ (st : Int) (i : Nat), i ≤ fl l st i := by
  induction l with
  | nil => intro st i; exact Nat.le_refl _
  | cons x t ih =>
    intro st i
    simp only [fl]
    split
    · have := ih (st - x) (i + 1)
      omega
    · exact Nat.le_refl _
theorem fl_mono (l : List Int) : ∀ (a b : Int) (i : Nat), a ≤ b → fl l a i ≤ fl l b i := by
  induction l with
  | nil => intro a b i h; exact Nat.le_refl _
  | cons x t ih =>
    intro a b i h
    simp only [fl]
    by_cases c : a > x
    · rw [if_pos c, if_pos (show b > x by omega)]
      exact ih _ _ _ (by omega)
    · rw [if_neg c]
      split
      · have := fl_ge t (b - x) (i + 1)
        omega
      · exact Nat.le_refl _
/-- The floors of doors. -/
def FL (d : List Int) (x : Int) : Int := ((fl d x 0 : Nat) : Int)
/-- A house and doors of it. -/
def lsB (s d l : List Int) : Bool := hsB s d && (decide (1 ≤ (l.length : Int) ∧ (l.length : Int) ≤ 20) && l.all fun x => decide (1 ≤ x ∧ x ≤ isum d))
theorem lsB_facts {s d l : List Int} (h : lsB s d l = true) : hsB s d = true ∧ 1 ≤ l.length ∧ l.length ≤ 20 ∧ ∀ x ∈ l, 1 ≤ x ∧ x ≤ isum d := by
  simp only [lsB, Bool.and_eq_true, List.all_eq_true, decide_eq_true_eq] at h
  exact ⟨h.1, by omega, by omega, h.2.2⟩
theorem FL_bd {s d : List Int} (h : hsB s d = true) (x : Int) (hx : 1 ≤ x ∧ x ≤ isum d) : 0 ≤ FL d x ∧ FL d x ≤ (s.length : Int) := by
  have f := hsB_facts h
  have := fl_lt d x 0 hx.1 hx.2
  unfold FL
  omega
theorem floors_l (s d : List Int) (h : hsB s d = true) (l : List Int) (hl : l.length ≤ 20) (n : Nat) : ∀ (k i : Nat) (acc : List Int), i + n = l.length → n + 30 < k → acc.length ≤ i →
    impl_floorsOf.l0 k acc l (l.length : Int) (i : Int) s d = some (if (l.drop i).all (fun x => decide (1 ≤ x ∧ x ≤ isum d)) = true then (acc ++ (l.drop i).map (FL d), true) else ([], false)) := by
  induction n with
  | zero =>
    intro k i acc hd hk ha
    obtain ⟨k, rfl⟩ : ∃ m, k = m + 1 := ⟨k - 1, by omega⟩
    simp only [impl_floorsOf.l0]
    rw [if_neg (by omega), List.drop_of_length_le (by omega)]
    simp
  | succ n ih =>
    intro k i acc hd hk ha
    obtain ⟨k, rfl⟩ : ∃ m, k = m + 1 := ⟨k - 1, by omega⟩
    have hi : i < l.length := by omega
    have ew : wrap64 ((i : Int) + 1) = ((i + 1 : Nat) : Int) := by rw [wr (by omega) (by omega)]; omega
    simp only [impl_floorsOf.l0, ew, rd_nat l i hi, sum_val d (small_d h) k (by omega), within_eq, Option.bind_some]
    rw [if_pos (by omega), if_pos (by omega), if_pos (by omega), List.drop_eq_getElem_cons hi, List.all_cons]
    by_cases c : 1 ≤ l[i] ∧ l[i] ≤ isum d
    · rw [if_pos (decide_eq_true c), floorOf_val s d (small_d h) l[i] c k (by omega)]
      simp only [Option.bind_some]
      rw [if_pos (by omega), ih k (i + 1) _ (by omega) (by omega) (by simp only [List.length_append, List.length_singleton]; omega), decide_eq_true c, Bool.true_and, List.map_cons, List.append_assoc, List.singleton_append]
      rfl
    · rw [if_neg (by simpa using c), decide_eq_false c, Bool.false_and]
      rfl
theorem floorsOf_val (s d l : List Int) (hd : d.length ≤ 1048576) (k : Nat) (hk : 2000000 < k) : impl_floorsOf.f k s d l = some (if lsB s d l = true then (l.map (FL d), true) else ([], false)) := by
  obtain ⟨k, rfl⟩ : ∃ m, k = m + 1 := ⟨k - 1, by omega⟩
  by_cases h : hsB s d = true
  · by_cases hl : 1 ≤ (l.length : Int) ∧ (l.length : Int) ≤ 20
    · have e := floors_l s d h l (by omega) l.length k 0 [] (by omega) (by omega) (by simp)
      simp only [List.nil_append, Int.natCast_zero, List.drop_zero] at e
      have e2 : impl_floorsOf.l0 k [] l (l.length : Int) 0 s d = some (if (l.all fun x => decide (1 ≤ x ∧ x ≤ isum d)) = true then (l.map (FL d), true) else ([], false)) := e
      simp only [impl_floorsOf.f, impl_floorsOf.j0, within_eq, isHouse_eq s d (by omega), Option.bind_some, if_pos h, decide_eq_true hl, if_true, Bool.not_true, Bool.false_eq_true, if_false, e2, lsB, h, Bool.true_and]
    · have z : lsB s d l = false := by simp only [lsB, decide_eq_false hl, Bool.false_and, Bool.and_false]
      simp only [impl_floorsOf.f, impl_floorsOf.j0, within_eq, isHouse_eq s d (by omega), Option.bind_some, if_pos h, decide_eq_false hl, Bool.not_false, if_true, z, Bool.false_eq_true, if_false]
  · have z : lsB s d l = false := by simp only [lsB, Bool.eq_false_iff.mpr h, Bool.false_and]
    simp only [impl_floorsOf.f, impl_floorsOf.j0, isHouse_eq s d (by omega), Option.bind_some, if_neg h, if_true, z, Bool.false_eq_true, if_false]
theorem ldList_val (s d l : List Int) (hd : d.length ≤ 1048576) (k : Nat) (hk : 2000000 < k) : spec_ldList.f k s d l = some (lsB s d l) := by
  simp only [spec_ldList.f, ldGood_eq s d (by omega) k (by omega), in_eq, Option.bind_some, lsB]
  by_cases h : hsB s d = true
  · by_cases hl : 1 ≤ (l.length : Int) ∧ (l.length : Int) ≤ 20
    · simp only [if_pos h, decide_eq_true hl, if_true, ldSum_val d (small_d h) k (by omega), all_val 1 (isum d) l (by omega) k (by omega), Option.bind_some, h, Bool.true_and]
    · simp only [if_pos h, decide_eq_false hl, Bool.false_eq_true, if_false, Bool.false_and, Bool.and_false]
  · simp only [Bool.eq_false_iff.mpr h, Bool.false_eq_true, if_false, Bool.false_and]

end Go.Proofs.YtbabjnnbcgpcgaaR.Pure
end

/- The plain law of FnExactMeetFloor: what the reference's function tells, the program's function tells, for every input. No further condition. -/
namespace Go.Proofs.YtbabjnnbcgpcgaaR.Pure
open Go.RowKit Go.Proofs.YtbabjnnbcgpcgaaR.H Go.Proofs.YtbabjnnbcgpcgaaRW.PrintWords Go.Proofs.YtbabjnnbcgpcgaaRW.PrintLast
set_option linter.unusedVariables false
set_option linter.unusedSimpArgs false

theorem most_eq (a b : Int) : spec_l1Most.f a b = some (mx a b) := by
  unfold spec_l1Most.f mx
  split <;> congr 1 <;> (try split) <;> omega
theorem ldBetween_val (s d : List Int) (h : hsB s d = true) (a b : Int) (ha : 0 ≤ a ∧ a ≤ (s.length : Int)) (hb : 0 ≤ b ∧ b ≤ (s.length : Int)) (k : Nat) (hk : 21 ≤ k) :
    spec_ldBetween.f k s d a b = some (isum (s.take (mx a b).toNat) - isum (s.take (mn a b).toNat)) := by
  have g := (between_val s d h a b ha hb k hk).2
  have b1 := ((small_s h).take a.toNat).bd
  have b2 := ((small_s h).take b.toNat).bd
  simp only [spec_ldBetween.f, spec_l1Abs.f, ldTo_val s d h a ha k hk, ldTo_val s d h b hb k hk, most_eq, Option.bind_some]
  rw [wr (x := isum (s.take a.toNat) - isum (s.take b.toNat)) (by omega) (by omega), wr (x := -(isum (s.take a.toNat) - isum (s.take b.toNat))) (by omega) (by omega)]
  congr 1
  by_cases c : a < b
  · have e1 : mx a b = b := by unfold mx; rw [if_pos c]
    have e2 : mn a b = a := by unfold mn; rw [if_neg (by omega)]
    rw [e1, e2] at g ⊢
    unfold mx
    split <;> omega
  · have e1 : mx a b = a := by unfold mx; rw [if_neg c]
    have e2 : mn a b = b := by
      unfold mn
      split
      · rfl
      · omega
    rw [e1, e2] at g ⊢
    unfold mx
    split <;> omega
theorem wi (i : Nat) (h : i ≤ 1000) : wrap64 ((i : Int) + 1) = ((i + 1 : Nat) : Int) := by
  rw [wr (by omega) (by omega)]
  omega
/-- The way between floors. -/
def ds (s : List Int) (a b : Int) : Int := isum (s.take (mx a b).toNat) - isum (s.take (mn a b).toNat)
def pos (s : List Int) (a : Int) : Int := isum (s.take a.toNat)
theorem ds_bd {s d : List Int} (h : hsB s d = true) (a b : Int) (ha : 0 ≤ a ∧ a ≤ (s.length : Int)) (hb : 0 ≤ b ∧ b ≤ (s.length : Int)) : 0 ≤ ds s a b ∧ ds s a b ≤ 800 := by
  have g := (between_val s d h a b ha hb 21 (Nat.le_refl _)).2
  have b1 := ((small_s h).take (mx a b).toNat).bd
  have b2 := ((small_s h).take (mn a b).toNat).bd
  unfold ds
  omega
theorem pos_bd {s d : List Int} (h : hsB s d = true) (a : Int) : 0 ≤ pos s a ∧ pos s a ≤ 800 := ((small_s h).take a.toNat).bd
theorem ds_zero (s : List Int) (a : Int) (ha : 0 ≤ a) : ds s a 0 = pos s a := by
  have e1 : mx a 0 = a := by unfold mx; split <;> omega
  have e2 : mn a 0 = 0 := by unfold mn; split <;> omega
  unfold ds pos
  rw [e1, e2]
  simp [isum]
theorem ds_up (s : List Int) (a b : Int) (h : a ≤ b) : ds s a b = pos s b - pos s a := by
  have e1 : mx a b = b := by unfold mx; split <;> omega
  have e2 : mn a b = a := by unfold mn; split <;> omega
  unfold ds pos
  rw [e1, e2]
theorem ds_symm (s : List Int) (a b : Int) : ds s a b = ds s b a := by
  have e1 : mx a b = mx b a := by unfold mx; split <;> split <;> omega
  have e2 : mn a b = mn b a := by unfold mn; split <;> split <;> omega
  unfold ds
  rw [e1, e2]
/-- The better one of a floor and of the best one before it. -/
def stp (S f : Int) (p : Int × Int) : Int × Int := if p.2 < 0 then (f, S) else if S < p.2 then (f, S) else p
/-- The first best floor. -/
def mt (S : Nat → Int) : Nat → Nat → Int × Int → Int × Int
  | 0, _, p => p
  | m + 1, f, p => mt S m (f + 1) (stp (S f) f p)
theorem mt_congr (S T : Nat → Int) (m : Nat) : ∀ f p, (∀ i, f ≤ i → i < f + m → S i = T i) → mt S m f p = mt T m f p := by
  induction m with
  | zero => intro f p _; rfl
  | succ m ih =>
    intro f p h
    simp only [mt]
    rw [h f (by omega) (by omega), ih (f + 1) _ (fun i h1 h2 => h i (by omega) (by omega))]
def sumD (s : List Int) : List Int → Int → Int
  | [], _ => 0
  | x :: t, f => ds s x f + sumD s t f
theorem impl_in (s d : List Int) (h : hsB s d = true) (F : List Int) (hl : F.length ≤ 20) (hx : ∀ x ∈ F, 0 ≤ x ∧ x ≤ (s.length : Int)) (b le n : Int) (f : Nat) (hf : f ≤ s.length) (m : Nat) : ∀ (k i : Nat) (sum : Int), i + m = F.length → m + 30 < k → 0 ≤ sum → sum ≤ 800 * i →
    ∃ k', k ≤ k' + m + 1 ∧ impl_House_meet.l1 k F b le (f : Int) sum n (f : Int) F (F.length : Int) (i : Int) s d = impl_House_meet.l0 k' F (stp (sum + sumD s (F.drop i) f) f (b, le)).1 (stp (sum + sumD s (F.drop i) f) f (b, le)).2 n (wrap64 ((f : Int) + 1)) s d := by
  induction m with
  | zero =>
    intro k i sum hd hk h0 h1
    obtain ⟨k, rfl⟩ : ∃ m, k = m + 1 := ⟨k - 1, by omega⟩
    refine ⟨k, by omega, ?_⟩
    simp only [impl_House_meet.l1]
    rw [if_neg (by omega), List.drop_of_length_le (by omega)]
    simp only [sumD, stp, Int.add_zero]
    by_cases c : le < 0
    · rw [if_pos c, if_pos c]
    · rw [if_neg c, if_neg c]
      split <;> rfl
  | succ m ih =>
    intro k i sum hd hk h0 h1
    obtain ⟨k, rfl⟩ : ∃ m, k = m + 1 := ⟨k - 1, by omega⟩
    have hi : i < F.length := by omega
    have hxi := hx F[i] (List.getElem_mem hi)
    have hff : (0 : Int) ≤ (f : Int) ∧ (f : Int) ≤ (s.length : Int) := ⟨by omega, by omega⟩
    have bd := ds_bd h F[i] (f : Int) hxi hff
    have e : impl_House_between.f k s d F[i] (f : Int) = some (ds s F[i] f) := (between_val s d h F[i] f hxi hff k (by omega)).1
    simp only [impl_House_meet.l1, rd_nat F i hi, e, Option.bind_some, wi i (show i ≤ 1000 by omega), wr (x := sum + ds s F[i] f) (by omega) (by omega)]
    rw [if_pos (by omega), if_pos (by omega), if_pos (by omega)]
    obtain ⟨k', hk', e2⟩ := ih k (i + 1) (sum + ds s F[i] f) (by omega) (by omega) (by omega) (by omega)
    refine ⟨k', by omega, ?_⟩
    rw [e2, List.drop_eq_getElem_cons hi]
    simp only [sumD, Int.add_assoc]
theorem impl_out (s d : List Int) (h : hsB s d = true) (F : List Int) (hl : F.length ≤ 20) (hx : ∀ x ∈ F, 0 ≤ x ∧ x ≤ (s.length : Int)) (m : Nat) : ∀ (k f : Nat) (b le : Int), f + m = d.length → 100 * m + 50 < k →
    impl_House_meet.l0 k F b le (d.length : Int) (f : Int) s d = some (mt (fun f => sumD s F f) m f (b, le)) := by
  have fc := hsB_facts h
  induction m with
  | zero =>
    intro k f b le hd hk
    obtain ⟨k, rfl⟩ : ∃ m, k = m + 1 := ⟨k - 1, by omega⟩
    simp only [impl_House_meet.l0]
    rw [if_neg (by omega)]
    rfl
  | succ m ih =>
    intro k f b le hd hk
    obtain ⟨k, rfl⟩ : ∃ m, k = m + 1 := ⟨k - 1, by omega⟩
    simp only [impl_House_meet.l0]
    rw [if_pos (by omega)]
    obtain ⟨k', hk', e⟩ := impl_in s d h F hl hx b le (d.length : Int) f (by omega) F.length k 0 0 (by omega) (by omega) (by omega) (by omega)
    rw [Int.natCast_zero] at e
    rw [e, wi f (by omega), List.drop_zero, ih k' (f + 1) _ _ (by omega) (by omega)]
    simp only [mt, Int.zero_add]
theorem meet_val (s d : List Int) (h : hsB s d = true) (F : List Int) (hl : F.length ≤ 20) (hx : ∀ x ∈ F, 0 ≤ x ∧ x ≤ (s.length : Int)) (k : Nat) (hk : 1000000 < k) : impl_House_meet.f k s d F = some (mt (fun f => sumD s F f) d.length 0 (0, -1)) := by
  have fc := hsB_facts h
  have := impl_out s d h F hl hx d.length k 0 0 (-1) (by omega) (by omega)
  simpa [impl_House_meet.f] using this
/-- What all walk, told by how many are at each floor. -/
def dotc : List Int → (Nat → Int) → Nat → Int
  | [], _, _ => 0
  | x :: t, D, i => x * D i + dotc t D (i + 1)
theorem dot_set (D : Nat → Int) : ∀ (c : List Int) (q i : Nat), q < c.length → dotc (c.set q (c.getD q 0 + 1)) D i = dotc c D i + D (i + q)
  | [], q, i, h => by simp at h
  | x :: t, 0, i, _ => by
    have e : (x + 1) * D i = x * D i + D i := by rw [Int.add_mul, Int.one_mul]
    have g : (x :: t).getD 0 0 = x := rfl
    rw [g]
    simp only [List.set_cons_zero, dotc, e, Nat.add_zero]
    omega
  | x :: t, q + 1, i, h => by
    have hq : q < t.length := by simpa using h
    have g : (x :: t).getD (q + 1) 0 = t.getD q 0 := rfl
    rw [g]
    simp only [List.set_cons_succ, dotc, dot_set D t q (i + 1) hq, Nat.add_right_comm i 1 q, Nat.add_assoc]
    omega
theorem dot_zero (D : Nat → Int) (n : Nat) : ∀ i, dotc (List.replicate n 0) D i = 0 := by
  induction n with
  | zero => intro i; rfl
  | succ n ih =>
    intro i
    simp only [List.replicate_succ, dotc, ih, Int.zero_mul]
    rfl
theorem spec_in (s d : List Int) (h : hsB s d = true) (c : List Int) (hl : c.length = d.length) (hx : ∀ x ∈ c, 0 ≤ x ∧ x ≤ 20) (b le n : Int) (f : Nat) (hf : f ≤ s.length) (m : Nat) : ∀ (k i : Nat) (sum : Int), i + m = c.length → m + 30 < k → 0 ≤ sum → sum ≤ 16000 * i →
    ∃ k', k ≤ k' + m + 1 ∧ spec_ldMeet.l1 k c b le (f : Int) sum n (f : Int) c (c.length : Int) (i : Int) s d = spec_ldMeet.l0 k' c (stp (sum + dotc (c.drop i) (fun j => ds s f j) i) f (b, le)).1 (stp (sum + dotc (c.drop i) (fun j => ds s f j) i) f (b, le)).2 n (wrap64 ((f : Int) + 1)) s d := by
  have fc := hsB_facts h
  induction m with
  | zero =>
    intro k i sum hd hk h0 h1
    obtain ⟨k, rfl⟩ : ∃ m, k = m + 1 := ⟨k - 1, by omega⟩
    refine ⟨k, by omega, ?_⟩
    simp only [spec_ldMeet.l1]
    rw [if_neg (by omega), List.drop_of_length_le (by omega)]
    simp only [dotc, stp, Int.add_zero]
    by_cases z : le < 0
    · rw [if_pos z, if_pos z]
    · rw [if_neg z, if_neg z]
      split <;> rfl
  | succ m ih =>
    intro k i sum hd hk h0 h1
    obtain ⟨k, rfl⟩ : ∃ m, k = m + 1 := ⟨k - 1, by omega⟩
    have hi : i < c.length := by omega
    have hxi := hx c[i] (List.getElem_mem hi)
    have hff : (0 : Int) ≤ (f : Int) ∧ (f : Int) ≤ (s.length : Int) := ⟨by omega, by omega⟩
    have hii : (0 : Int) ≤ (i : Int) ∧ (i : Int) ≤ (s.length : Int) := ⟨by omega, by omega⟩
    have bd := ds_bd h (f : Int) (i : Int) hff hii
    have p0 : 0 ≤ c[i] * ds s f i := Int.mul_nonneg hxi.1 bd.1
    have p1 : c[i] * ds s f i ≤ 20 * 800 := Int.mul_le_mul hxi.2 bd.2 bd.1 (by omega)
    have e : spec_ldBetween.f k s d (f : Int) (i : Int) = some (ds s f i) := ldBetween_val s d h f i hff hii k (by omega)
    simp only [spec_ldMeet.l1, rd_nat c i hi, e, Option.bind_some, wi i (show i ≤ 1000 by omega)]
    generalize hp : c[i] * ds s f i = p at p0 p1
    rw [if_pos (by omega), if_pos (by omega), if_pos (by omega), wr (x := p) (by omega) (by omega), wr (x := sum + p) (by omega) (by omega)]
    obtain ⟨k', hk', e2⟩ := ih k (i + 1) (sum + p) (by omega) (by omega) (by omega) (by omega)
    refine ⟨k', by omega, ?_⟩
    rw [e2, List.drop_eq_getElem_cons hi]
    simp only [dotc, hp, Int.add_assoc]
theorem spec_out (s d : List Int) (h : hsB s d = true) (c : List Int) (hl : c.length = d.length) (hx : ∀ x ∈ c, 0 ≤ x ∧ x ≤ 20) (m : Nat) : ∀ (k f : Nat) (b le : Int), f + m = d.length → 100 * m + 50 < k →
    spec_ldMeet.l0 k c b le (d.length : Int) (f : Int) s d = some (mt (fun f => dotc c (fun j => ds s f j) 0) m f (b, le)) := by
  have fc := hsB_facts h
  induction m with
  | zero =>
    intro k f b le hd hk
    obtain ⟨k, rfl⟩ : ∃ m, k = m + 1 := ⟨k - 1, by omega⟩
    simp only [spec_ldMeet.l0]
    rw [if_neg (by omega)]
    rfl
  | succ m ih =>
    intro k f b le hd hk
    obtain ⟨k, rfl⟩ : ∃ m, k = m + 1 := ⟨k - 1, by omega⟩
    simp only [spec_ldMeet.l0]
    rw [if_pos (by omega)]
    obtain ⟨k', hk', e⟩ := spec_in s d h c hl hx b le (d.length : Int) f (by omega) c.length k 0 0 (by omega) (by omega) (by omega) (by omega)
    rw [Int.natCast_zero] at e
    rw [e, wi f (by omega), List.drop_zero, ih k' (f + 1) _ _ (by omega) (by omega)]
    simp only [mt, Int.zero_add]
theorem ldMeet_val (s d : List Int) (h : hsB s d = true) (c : List Int) (hl : c.length = d.length) (hx : ∀ x ∈ c, 0 ≤ x ∧ x ≤ 20) (k : Nat) (hk : 1000000 < k) : spec_ldMeet.f k s d c = some (mt (fun f => dotc c (fun j => ds s f j) 0) d.length 0 (0, -1)) := by
  have fc := hsB_facts h
  have := spec_out s d h c hl hx d.length k 0 0 (-1) (by omega) (by omega)
  simpa [spec_ldMeet.f] using this
def cnt (d : List Int) : List Int → List Int → List Int
  | [], c => c
  | x :: t, c => cnt d t (c.set (fl d x 0) (c.getD (fl d x 0) 0 + 1))
theorem cnt_facts (d : List Int) (l : List Int) : ∀ (c : List Int) (n : Int), c.length = d.length → (∀ x ∈ l, 1 ≤ x ∧ x ≤ isum d) → (∀ v ∈ c, 0 ≤ v ∧ v ≤ n) → 0 ≤ n →
    (cnt d l c).length = d.length ∧ (∀ v ∈ cnt d l c, 0 ≤ v ∧ v ≤ n + l.length) := by
  induction l with
  | nil => intro c n hc _ hv _; exact ⟨hc, fun v hm => by simpa using hv v hm⟩
  | cons x t ih =>
    intro c n hc hl hv hn
    have hx := hl x (by simp)
    have hq := fl_lt d x 0 hx.1 hx.2
    have hqc : fl d x 0 < c.length := by omega
    have hg : 0 ≤ c.getD (fl d x 0) 0 ∧ c.getD (fl d x 0) 0 ≤ n := by
      rw [List.getD_eq_getElem?_getD, List.getElem?_eq_getElem hqc]
      exact hv _ (List.getElem_mem hqc)
    have h := ih (c.set (fl d x 0) (c.getD (fl d x 0) 0 + 1)) (n + 1) (by rw [List.length_set]; exact hc) (fun y hy => hl y (by simp [hy])) (fun v hm => by
      rcases List.mem_or_eq_of_mem_set hm with z | z
      · have := hv v z
        omega
      · omega) (by omega)
    simp only [cnt]
    refine ⟨h.1, fun v hm => ?_⟩
    have := h.2 v hm
    simp only [List.length_cons]
    omega
theorem cnt_dot (s d : List Int) (f : Nat) (l : List Int) : ∀ (c : List Int), c.length = d.length → (∀ x ∈ l, 1 ≤ x ∧ x ≤ isum d) → dotc (cnt d l c) (fun j => ds s f j) 0 = dotc c (fun j => ds s f j) 0 + sumD s (l.map (FL d)) f := by
  induction l with
  | nil => intro c hc _; simp [cnt, sumD]
  | cons x t ih =>
    intro c hc hl
    have hx := hl x (by simp)
    have hq := fl_lt d x 0 hx.1 hx.2
    simp only [cnt, List.map_cons, sumD]
    rw [ih _ (by rw [List.length_set]; exact hc) (fun y hy => hl y (by simp [hy])), dot_set _ c (fl d x 0) 0 (by omega), ds_symm s (FL d x) f]
    simp only [FL, Nat.zero_add]
    omega
theorem spec_cnt (s d : List Int) (h : hsB s d = true) (l : List Int) (hl : l.length ≤ 20) (hx : ∀ x ∈ l, 1 ≤ x ∧ x ≤ isum d) (m : Nat) : ∀ (k i : Nat) (c : List Int), i + m = l.length → m + 2000000 < k → c.length = d.length → (∀ v ∈ c, 0 ≤ v ∧ v ≤ (i : Int)) →
    spec_MeetFloor.l0 k c l (l.length : Int) (i : Int) s d = some ((mt (fun f => dotc (cnt d (l.drop i) c) (fun j => ds s f j) 0) d.length 0 (0, -1)).1, (mt (fun f => dotc (cnt d (l.drop i) c) (fun j => ds s f j) 0) d.length 0 (0, -1)).2, true) := by
  have fc := hsB_facts h
  induction m with
  | zero =>
    intro k i c hd hk hc hv
    obtain ⟨k, rfl⟩ : ∃ m, k = m + 1 := ⟨k - 1, by omega⟩
    have e := ldMeet_val s d h c hc (fun x hm => by have := hv x hm; omega) k (by omega)
    simp only [spec_MeetFloor.l0, e, Option.bind_some]
    rw [if_neg (by omega), List.drop_of_length_le (by omega)]
    rfl
  | succ m ih =>
    intro k i c hd hk hc hv
    obtain ⟨k, rfl⟩ : ∃ m, k = m + 1 := ⟨k - 1, by omega⟩
    have hi : i < l.length := by omega
    have hxi := hx l[i] (List.getElem_mem hi)
    have hq := fl_lt d l[i] 0 hxi.1 hxi.2
    have hqc : fl d l[i] 0 < c.length := by omega
    have hg : 0 ≤ c.getD (fl d l[i] 0) 0 ∧ c.getD (fl d l[i] 0) 0 ≤ (i : Int) := by
      rw [List.getD_eq_getElem?_getD, List.getElem?_eq_getElem hqc]
      exact hv _ (List.getElem_mem hqc)
    have e1 : spec_ldOf.f k s d l[i] = some ((fl d l[i] 0 : Nat) : Int) := by rw [ldOf_eq, floorOf_val s d (small_d h) l[i] hxi k (by omega)]
    have er : rd c ((fl d l[i] 0 : Nat) : Int) = c.getD (fl d l[i] 0) 0 := by simp [rd]
    simp only [spec_MeetFloor.l0, rd_nat l i hi, e1, er, Option.bind_some, Int.toNat_natCast, wi i (show i ≤ 1000 by omega), wr (x := c.getD (fl d l[i] 0) 0 + 1) (by omega) (by omega)]
    rw [if_pos (by omega), if_pos (by omega), if_pos (by omega), if_pos (by omega), if_pos (by omega), ih k (i + 1) _ (by omega) (by omega) (by rw [List.length_set]; exact hc) (fun v hm => by
      rcases List.mem_or_eq_of_mem_set hm with z | z
      · have := hv v z
        omega
      · omega), List.drop_eq_getElem_cons hi]
    rfl
theorem val (s d l : List Int) (hs : s.length ≤ 1048576) (hd : d.length ≤ 1048576) : ∃ r, ∀ k, 2000000 < k → spec_MeetFloor.f (k + 100) s d l = some r ∧ impl_MeetFloor.f (k + 100) s d l = some r := by
  by_cases h : lsB s d l = true
  · have f := lsB_facts h
    have hF : ∀ x ∈ l.map (FL d), 0 ≤ x ∧ x ≤ (s.length : Int) := fun x hx => by
      obtain ⟨y, hy, rfl⟩ := List.mem_map.mp hx
      exact FL_bd f.1 y (f.2.2.2 y hy)
    refine ⟨((mt (fun f => sumD s (l.map (FL d)) f) d.length 0 (0, -1)).1, (mt (fun f => sumD s (l.map (FL d)) f) d.length 0 (0, -1)).2, true), fun k hk => ?_⟩
    constructor
    · have e := spec_cnt s d f.1 l f.2.2.1 f.2.2.2 l.length (k + 100) 0 (List.replicate d.length 0) (by omega) (by omega) (by simp) (fun v hv => by
        have := List.eq_of_mem_replicate hv
        omega)
      rw [Int.natCast_zero, List.drop_zero] at e
      have eq : mt (fun f => dotc (cnt d l (List.replicate d.length 0)) (fun j => ds s f j) 0) d.length 0 (0, -1) = mt (fun f => sumD s (l.map (FL d)) f) d.length 0 (0, -1) := by
        refine mt_congr _ _ _ _ _ fun i _ _ => ?_
        show dotc (cnt d l (List.replicate d.length 0)) (fun j => ds s i j) 0 = sumD s (l.map (FL d)) i
        rw [cnt_dot s d i l _ (by simp) f.2.2.2, dot_zero]
        omega
      rw [eq] at e
      simp only [spec_MeetFloor.f, ldList_val s d l hd (k + 100) (by omega), Option.bind_some, if_pos h, Int.toNat_natCast]
      rw [if_pos (by omega), if_pos (by omega), e]
    · simp only [impl_MeetFloor.f, floorsOf_val s d l hd (k + 100) (by omega), Option.bind_some, if_pos h, if_true, meet_val s d f.1 (l.map (FL d)) (by simp; omega) hF (k + 100) (by omega)]
  · refine ⟨(0, 0, false), fun k hk => ?_⟩
    simp only [spec_MeetFloor.f, impl_MeetFloor.f, ldList_val s d l hd (k + 100) (by omega), floorsOf_val s d l hd (k + 100) (by omega), Option.bind_some, if_neg h, Bool.false_eq_true, if_false]
    exact ⟨trivial, trivial⟩
theorem FnExactMeetFloor (l0_0 : List Int) (l0_1 : List Int) (l1 : List Int) (m0_0 : l0_0.length ≤ maxLen) (w0_0 : ∀ x ∈ l0_0, (Lit.int .i64 x).wf = true) (m0_1 : l0_1.length ≤ maxLen) (w0_1 : ∀ x ∈ l0_1, (Lit.int .i64 x).wf = true) (m1 : l1.length ≤ maxLen) (y1 : l1.length * 8 ≤ 140737488351232) (w1 : ∀ x ∈ l1, (Lit.int .i64 x).wf = true) : ∃ k, laws_FnExactMeetFloor.f k l0_0 l0_1 l1 = some true := by
  by_cases hb : l1.length ≤ 1048576
  · rcases sz_val l0_0 l0_1 m0_0 m0_1 with ⟨hs, hd, n, e, hn⟩ | ⟨n, e, hn⟩
    · obtain ⟨r, h0⟩ := val l0_0 l0_1 l1 (by omega) (by omega)
      have h : ∀ k, 2000100 < k → spec_MeetFloor.f k l0_0 l0_1 l1 = some r ∧ impl_MeetFloor.f k l0_0 l0_1 l1 = some r := fun k hk => by
        obtain ⟨j, rfl⟩ : ∃ j, k = j + 100 := ⟨k - 100, by omega⟩
        exact h0 j (by omega)
      have main : ∀ m : Nat, 2000201 ≤ m → laws_FnExactMeetFloor.f (m + 1) l0_0 l0_1 l1 = some true := by
        intro m hm
        simp only [laws_FnExactMeetFloor.f, laws_FnExactMeetFloor.j0, e, Option.bind_some, if_neg hn, toHouse_val l0_0 l0_1 hs hd (m + 1) (by omega), toHouse_val l0_0 l0_1 hs hd m (by omega), toI_val l1 (by omega) (m + 1) (by omega), toI_val l1 (by omega) m (by omega), eqI_val l1 (by omega) m (by omega), (h (m + 1) (by omega)).1, (h (m + 1) (by omega)).2, eqHouse_val l0_0 l0_1 hs hd m (by omega)]
        rw [if_neg (by omega)]
        simp
      exact ⟨2000201 + 1, main 2000201 (Nat.le_refl _)⟩
    · refine ⟨0, ?_⟩
      simp only [laws_FnExactMeetFloor.f, e, Option.bind_some, if_pos hn]
      rw [if_neg (by omega)]
  · refine ⟨0, ?_⟩
    simp only [laws_FnExactMeetFloor.f]
    rw [if_pos (by omega)]

end Go.Proofs.YtbabjnnbcgpcgaaR.Pure
