/- Plain laws of this session, with its shared lemmas laid in. -/
import Derived.Test.YtbabjnnbcgpcgaaRHx92
import Derived.Test.YtbabjnnbcgpcgaaRHx1
import Derived.Test.YtbabjnnbcgpcgaaRHx11
import Derived.Test.YtbabjnnbcgpcgaaRHx12
import Derived.Test.YtbabjnnbcgpcgaaRHx13
import Derived.Test.YtbabjnnbcgpcgaaRHx16
import Derived.Test.YtbabjnnbcgpcgaaRHx17
import Derived.Test.YtbabjnnbcgpcgaaRHx19
import Derived.Test.YtbabjnnbcgpcgaaRHx2
import Derived.Test.YtbabjnnbcgpcgaaRHx20
import Derived.Test.YtbabjnnbcgpcgaaRHx3
import Derived.Test.YtbabjnnbcgpcgaaRHx4
import Derived.Test.YtbabjnnbcgpcgaaRHx5
import Derived.Test.YtbabjnnbcgpcgaaRHx30
import Derived.Test.YtbabjnnbcgpcgaaRHx7
import Derived.Test.YtbabjnnbcgpcgaaRHx31
import Derived.Test.YtbabjnnbcgpcgaaRHx8
import Derived.Test.YtbabjnnbcgpcgaaRHx35
import Derived.Test.YtbabjnnbcgpcgaaRHx36
import Derived.Test.YtbabjnnbcgpcgaaRHx39
import Derived.Test.YtbabjnnbcgpcgaaRHx40
import Derived.Test.YtbabjnnbcgpcgaaRHx21
import Derived.Test.YtbabjnnbcgpcgaaRHx22
import Derived.Test.YtbabjnnbcgpcgaaRHx23
section
/- Plain lemmas on the functions of houses: what the printed functions of the program and of the reference tell, at every list that they are asked at here. No further condition. -/
namespace Go.Proofs.YtbabjnnbcgpcgaaR.Pure
open Go.RowKit Go.Proofs.YtbabjnnbcgpcgaaR.H Go.Proofs.YtbabjnnbcgpcgaaRW.PrintWords Go.Proofs.YtbabjnnbcgpcgaaRW.PrintLast Go.Proofs.YtbabjnnbcgpcgaaRW.PrintMore
set_option linter.unusedVariables false
set_option linter.unusedSimpArgs false

theorem wr {x : Int} (h0 : -9223372036854775808 ≤ x) (h1 : x ≤ 9223372036854775807) : wrap64 x = x := by
  unfold wrap64
  omega
theorem in_eq (a b c : Int) : spec_l1In.f a b c = some (decide (b ≤ a ∧ a ≤ c)) := by
  unfold spec_l1In.f
  by_cases h : a ≥ b
  · rw [if_pos h]
    simp [show b ≤ a from h]
  · rw [if_neg h]
    simp [show ¬ b ≤ a from h]
theorem within_eq (a b c : Int) : impl_within.f a b c = some (decide (b ≤ a ∧ a ≤ c)) := by
  unfold impl_within.f
  by_cases h : b ≤ a
  · rw [if_pos h]
    simp [h]
  · rw [if_neg h]
    simp [h]
theorem rd_nat (l : List Int) (i : Nat) (h : i < l.length) : rd l (i : Int) = l[i] := by simp [rd, List.getD, h]
/-- A house: what both functions ask. -/
def hsB (s d : List Int) : Bool := decide (2 ≤ (d.length : Int) ∧ (d.length : Int) ≤ 12) && (decide ((s.length : Int) + 1 = d.length) && ((s.all fun x => decide (1 ≤ x ∧ x ≤ 40)) && (d.all fun x => decide (0 ≤ x ∧ x ≤ 20))))
theorem hsB_facts {s d : List Int} (h : hsB s d = true) : 2 ≤ d.length ∧ d.length ≤ 12 ∧ s.length + 1 = d.length ∧ (∀ x ∈ s, 1 ≤ x ∧ x ≤ 40) ∧ (∀ x ∈ d, 0 ≤ x ∧ x ≤ 20) := by
  simp only [hsB, Bool.and_eq_true, List.all_eq_true, decide_eq_true_eq] at h
  exact ⟨by omega, by omega, by omega, h.2.2.1, h.2.2.2⟩
theorem all_l (lo hi : Int) (l : List Int) (hl : l.length ≤ 1000) (n : Nat) : ∀ (k i : Nat), i + n = l.length → n < k → spec_l1All.l0 k lo hi l (l.length : Int) (i : Int) = some ((l.drop i).all fun x => decide (lo ≤ x ∧ x ≤ hi)) := by
  induction n with
  | zero =>
    intro k i hd hk
    obtain ⟨k, rfl⟩ : ∃ m, k = m + 1 := ⟨k - 1, by omega⟩
    simp only [spec_l1All.l0]
    rw [if_neg (by omega), List.drop_of_length_le (by omega)]
    rfl
  | succ n ih =>
    intro k i hd hk
    obtain ⟨k, rfl⟩ : ∃ m, k = m + 1 := ⟨k - 1, by omega⟩
    have hix : i < l.length := by omega
    have ew : wrap64 ((i : Int) + 1) = ((i + 1 : Nat) : Int) := by rw [wr (by omega) (by omega)]; omega
    simp only [spec_l1All.l0, in_eq, Option.bind_some, ew, rd_nat l i hix]
    rw [if_pos (by omega), if_pos (by omega), if_pos (by omega), List.drop_eq_getElem_cons hix, List.all_cons]
    by_cases c : lo ≤ l[i] ∧ l[i] ≤ hi
    · rw [if_pos (decide_eq_true c), ih k (i + 1) (by omega) (by omega), decide_eq_true c, Bool.true_and]
    · rw [if_neg (by simpa using c), decide_eq_false c, Bool.false_and]
theorem all_val (lo hi : Int) (l : List Int) (hl : l.length ≤ 1000) (k : Nat) (hk : l.length < k) : spec_l1All.f k l lo hi = some (l.all fun x => decide (lo ≤ x ∧ x ≤ hi)) := by
  have := all_l lo hi l hl l.length k 0 (by omega) hk
  simpa [spec_l1All.f] using this
theorem any_not (p : Int → Bool) (l : List Int) : (l.any fun x => !p x) = !(l.all p) := by
  induction l with
  | nil => rfl
  | cons x t ih => simp only [List.any_cons, List.all_cons, ih, Bool.not_and]
theorem ldGood_eq (s d : List Int) (hm : d.length ≤ 4000000000) (k : Nat) (hk : 20 ≤ k) : spec_ldGood.f k s d = some (hsB s d) := by
  simp only [spec_ldGood.f, in_eq, Option.bind_some, hsB]
  rw [wr (x := (d.length : Int) - 1) (by omega) (by omega)]
  by_cases c1 : 2 ≤ (d.length : Int) ∧ (d.length : Int) ≤ 12
  · by_cases c2 : (s.length : Int) + 1 = d.length
    · rw [all_val 1 40 s (by omega) k (by omega), all_val 0 20 d (by omega) k (by omega), if_pos (decide_eq_true c1), if_pos (by omega), decide_eq_true c1, decide_eq_true c2]
      simp only [Option.bind_some, Bool.true_and]
      cases s.all fun x => decide (1 ≤ x ∧ x ≤ 40) <;> simp
    · rw [if_pos (decide_eq_true c1), if_neg (by omega), decide_eq_false c2]
      simp
  · rw [if_neg (by simpa using c1), decide_eq_false c1]
    rfl
theorem isHouse_eq (s d : List Int) (hm : d.length ≤ 4000000000) : impl_IsHouse.f s d = some (hsB s d) := by
  simp only [impl_IsHouse.f, within_eq, Option.bind_some, hsB, cf_IsHouse1.f, cf_IsHouse2.f]
  rw [wr (x := (d.length : Int) - 1) (by omega) (by omega)]
  by_cases c1 : 2 ≤ (d.length : Int) ∧ (d.length : Int) ≤ 12
  · by_cases c2 : (s.length : Int) + 1 = d.length
    · rw [if_pos (show s.length ≤ 9223372036854775807 by omega), if_pos (show d.length ≤ 9223372036854775807 by omega), if_pos (decide_eq_true c1), if_pos (by omega), decide_eq_true c1, decide_eq_true c2, any_not, any_not]
      simp only [Option.bind_some, Bool.true_and]
      cases s.all fun x => decide (1 ≤ x ∧ x ≤ 40) <;> simp
    · rw [if_pos (decide_eq_true c1), if_neg (by omega), decide_eq_false c2]
      simp
  · rw [if_neg (by simpa using c1), decide_eq_false c1]
    rfl
/-- The size that the laws ask. -/
theorem sz_val (s d : List Int) (hs : s.length ≤ maxLen) (hd : d.length ≤ maxLen) : (s.length ≤ 1048576 ∧ d.length ≤ 1048576 ∧ ∃ n : Int, laws_szHouse.f s d 1048576 = some n ∧ ¬ n < 0) ∨ ∃ n : Int, laws_szHouse.f s d 1048576 = some n ∧ n < 0 := by
  unfold maxLen at hs hd
  simp only [laws_szHouse.f, laws_szIntS.f]
  rw [wr (x := (1048576 : Int) - (s.length : Int)) (by omega) (by omega)]
  by_cases c : (1048576 : Int) - (s.length : Int) < 0
  · rw [if_pos c]
    exact .inr ⟨-1, rfl, by omega⟩
  · rw [if_neg c]
    simp only [Option.bind_some]
    rw [if_neg c, wr (x := (1048576 : Int) - (s.length : Int) - (d.length : Int)) (by omega) (by omega)]
    by_cases c2 : (1048576 : Int) - (s.length : Int) - (d.length : Int) < 0
    · rw [if_pos c2]
      exact .inr ⟨-1, rfl, by omega⟩
    · rw [if_neg c2]
      simp only [Option.bind_some]
      rw [if_neg c2]
      exact .inl ⟨by omega, by omega, _, rfl, c2⟩
theorem toI_l (l : List Int) (t : List Int) : ∀ (k : Nat) (pre : List Int), l = pre ++ t → l.length ≤ 2000000 → t.length < k → laws_toIntS.l0 k l (pre ++ List.replicate t.length 0) (pre.length : Int) = some l := by
  induction t with
  | nil =>
    intro k pre e hl hk
    obtain ⟨k, rfl⟩ : ∃ m, k = m + 1 := ⟨k - 1, by omega⟩
    subst e
    simp only [laws_toIntS.l0, List.length_nil, List.replicate_zero, List.append_nil]
    rw [if_neg (by omega)]
  | cons x t ih =>
    intro k pre e hl hk
    simp only [List.length_cons] at hk
    obtain ⟨k, rfl⟩ : ∃ m, k = m + 1 := ⟨k - 1, by omega⟩
    have hlen : l.length = pre.length + (t.length + 1) := by rw [e]; simp
    have ew : wrap64 ((pre.length : Int) + 1) = ((pre.length + 1 : Nat) : Int) := by rw [wr (by omega) (by omega)]; omega
    have er : rd l (pre.length : Int) = x := by rw [e]; simp [rd, List.getD]
    have es : (pre ++ List.replicate (t.length + 1) (0 : Int)).set ((pre.length : Int)).toNat x = (pre ++ [x]) ++ List.replicate t.length 0 := by
      rw [Int.toNat_natCast, List.set_append_right _ _ (Nat.le_refl _), Nat.sub_self, List.replicate_succ]
      simp
    have := ih k (pre ++ [x]) (by rw [e]; simp) hl (by omega)
    rw [show (pre ++ [x]).length = pre.length + 1 by simp] at this
    simp only [laws_toIntS.l0, List.length_cons, ew, er, es]
    rw [if_pos (by omega), if_pos (by omega), if_pos (by simp only [List.length_append, List.length_replicate]; omega), this]
theorem toI_val (l : List Int) (hl : l.length ≤ 2000000) (k : Nat) (hk : 2000000 < k) : laws_toIntS.f k l = some l := by
  have := toI_l l l k [] rfl hl (by omega)
  simp only [laws_toIntS.f, Int.toNat_natCast]
  rw [if_pos (by omega), if_pos (by omega)]
  simpa using this
theorem toHouse_val (s d : List Int) (hs : s.length ≤ 1048576) (hd : d.length ≤ 1048576) (k : Nat) (hk : 2000000 < k) : laws_toHouse.f k s d = some (s, d) := by
  simp only [laws_toHouse.f, toI_val s (by omega) k hk, toI_val d (by omega) k hk, Option.bind_some]
theorem eqI_l (l : List Int) (hl : l.length ≤ 4000000) (n : Nat) : ∀ (k : Nat) (i : Nat), i + n = l.length → n < k → laws_eqIntS.l0 k l l (i : Int) = some true := by
  induction n with
  | zero =>
    intro k i hd hk
    obtain ⟨k, rfl⟩ : ∃ m, k = m + 1 := ⟨k - 1, by omega⟩
    simp only [laws_eqIntS.l0]
    rw [if_neg (by omega)]
  | succ n ih =>
    intro k i hd hk
    obtain ⟨k, rfl⟩ : ∃ m, k = m + 1 := ⟨k - 1, by omega⟩
    have ew : wrap64 ((i : Int) + 1) = ((i + 1 : Nat) : Int) := by rw [wr (by omega) (by omega)]; omega
    simp only [laws_eqIntS.l0, ew]
    rw [if_pos (by omega), if_pos (by omega), if_pos (by omega), if_pos trivial, ih k (i + 1) (by omega) (by omega)]
theorem eqI_val (l : List Int) (hl : l.length ≤ 2000000) (k : Nat) (hk : 2000000 < k) : laws_eqIntS.f k l l = some true := by
  unfold laws_eqIntS.f
  rw [if_pos rfl]
  exact eqI_l l (by omega) l.length k 0 (by omega) (by omega)
theorem eqHouse_val (s d : List Int) (hs : s.length ≤ 1048576) (hd : d.length ≤ 1048576) (k : Nat) (hk : 2000000 < k) : laws_eqHouse.f k s d s d = some true := by
  simp only [laws_eqHouse.f, eqI_val s (by omega) k hk, eqI_val d (by omega) k hk, Option.bind_some, if_true]
/-- Sums of few small numbers. -/
def isum : List Int → Int
  | [] => 0
  | x :: t => x + isum t
theorem isum_append (a b : List Int) : isum (a ++ b) = isum a + isum b := by
  induction a with
  | nil => simp [isum]
  | cons x t ih => simp only [List.cons_append, isum, ih]; omega
def Small (l : List Int) : Prop := l.length ≤ 20 ∧ ∀ x ∈ l, 0 ≤ x ∧ x ≤ 40
theorem isum_bd (l : List Int) (h : ∀ x ∈ l, 0 ≤ x ∧ x ≤ 40) : 0 ≤ isum l ∧ isum l ≤ 40 * l.length := by
  induction l with
  | nil => simp [isum]
  | cons x t ih =>
    have h1 := h x (by simp)
    have h2 := ih (fun y hy => h y (by simp [hy]))
    simp only [isum, List.length_cons]
    omega
theorem Small.bd {l : List Int} (h : Small l) : 0 ≤ isum l ∧ isum l ≤ 800 := by
  have := isum_bd l h.2
  have := h.1
  omega
theorem Small.take {l : List Int} (h : Small l) (n : Nat) : Small (l.take n) := ⟨Nat.le_trans (List.length_take_le' _ _) h.1, fun x hx => h.2 x (List.mem_of_mem_take hx)⟩
theorem Small.drop {l : List Int} (h : Small l) (n : Nat) : Small (l.drop n) := ⟨by rw [List.length_drop]; have := h.1; omega, fun x hx => h.2 x (List.mem_of_mem_drop hx)⟩
theorem small_s {s d : List Int} (h : hsB s d = true) : Small s := by
  have f := hsB_facts h
  exact ⟨by omega, fun x hx => by have := f.2.2.2.1 x hx; omega⟩
theorem small_d {s d : List Int} (h : hsB s d = true) : Small d := by
  have f := hsB_facts h
  exact ⟨by omega, fun x hx => by have := f.2.2.2.2 x hx; omega⟩

end Go.Proofs.YtbabjnnbcgpcgaaR.Pure
end

section
/- Plain lemmas on the functions of houses: what the printed functions of the program and of the reference tell, at every list that they are asked at here. No further condition. -/
namespace Go.Proofs.YtbabjnnbcgpcgaaR.Pure
open Go.RowKit Go.Proofs.YtbabjnnbcgpcgaaR.H Go.Proofs.YtbabjnnbcgpcgaaRW.PrintWords Go.Proofs.YtbabjnnbcgpcgaaRW.PrintLast Go.Proofs.YtbabjnnbcgpcgaaRW.PrintMore
set_option linter.unusedVariables false
set_option linter.unusedSimpArgs false

theorem sum_l (l : List Int) (hl : Small l) (n : Nat) : ∀ (k i : Nat) (a : Int), i + n = l.length → n < k → 0 ≤ a → a ≤ 40 * i → impl_sum.l0 k a l (l.length : Int) (i : Int) = some (a + isum (l.drop i)) := by
  have h20 := hl.1
  induction n with
  | zero =>
    intro k i a hd hk h0 h1
    obtain ⟨k, rfl⟩ : ∃ m, k = m + 1 := ⟨k - 1, by omega⟩
    simp only [impl_sum.l0]
    rw [if_neg (by omega), List.drop_of_length_le (by omega)]
    simp [isum]
  | succ n ih =>
    intro k i a hd hk h0 h1
    obtain ⟨k, rfl⟩ : ∃ m, k = m + 1 := ⟨k - 1, by omega⟩
    have hi : i < l.length := by omega
    have hb := hl.2 l[i] (List.getElem_mem hi)
    have ew : wrap64 ((i : Int) + 1) = ((i + 1 : Nat) : Int) := by rw [wr (by omega) (by omega)]; omega
    have ea : wrap64 (a + l[i]) = a + l[i] := wr (by omega) (by omega)
    simp only [impl_sum.l0, ew, rd_nat l i hi, ea]
    rw [if_pos (by omega), if_pos (by omega), if_pos (by omega), ih k (i + 1) _ (by omega) (by omega) (by omega) (by omega), List.drop_eq_getElem_cons hi]
    simp only [isum]
    congr 1
    omega
theorem sum_val (l : List Int) (hl : Small l) (k : Nat) (hk : 21 ≤ k) : impl_sum.f k l = some (isum l) := by
  have h20 := hl.1
  have := sum_l l hl l.length k 0 0 (by omega) (by omega) (by omega) (by omega)
  simpa [impl_sum.f] using this
theorem ldSum_l (l : List Int) (hl : Small l) (n : Nat) : ∀ (k i : Nat) (a : Int), i + n = l.length → n < k → 0 ≤ a → a ≤ 40 * i → spec_ldSum.l0 k a l (l.length : Int) (i : Int) = some (a + isum (l.drop i)) := by
  have h20 := hl.1
  induction n with
  | zero =>
    intro k i a hd hk h0 h1
    obtain ⟨k, rfl⟩ : ∃ m, k = m + 1 := ⟨k - 1, by omega⟩
    simp only [spec_ldSum.l0]
    rw [if_neg (by omega), List.drop_of_length_le (by omega)]
    simp [isum]
  | succ n ih =>
    intro k i a hd hk h0 h1
    obtain ⟨k, rfl⟩ : ∃ m, k = m + 1 := ⟨k - 1, by omega⟩
    have hi : i < l.length := by omega
    have hb := hl.2 l[i] (List.getElem_mem hi)
    have ew : wrap64 ((i : Int) + 1) = ((i + 1 : Nat) : Int) := by rw [wr (by omega) (by omega)]; omega
    have ea : wrap64 (a + l[i]) = a + l[i] := wr (by omega) (by omega)
    simp only [spec_ldSum.l0, ew, rd_nat l i hi, ea]
    rw [if_pos (by omega), if_pos (by omega), if_pos (by omega), ih k (i + 1) _ (by omega) (by omega) (by omega) (by omega), List.drop_eq_getElem_cons hi]
    simp only [isum]
    congr 1
    omega
theorem ldSum_val (l : List Int) (hl : Small l) (k : Nat) (hk : 21 ≤ k) : spec_ldSum.f k l = some (isum l) := by
  have h20 := hl.1
  have := ldSum_l l hl l.length k 0 0 (by omega) (by omega) (by omega) (by omega)
  simpa [spec_ldSum.f] using this

end Go.Proofs.YtbabjnnbcgpcgaaR.Pure
end

section
/- Plain lemmas on the functions of houses: what the printed functions of the program and of the reference tell, at every list that they are asked at here. No further condition. -/
namespace Go.Proofs.YtbabjnnbcgpcgaaR.Pure
open Go.RowKit Go.Proofs.YtbabjnnbcgpcgaaR.H Go.Proofs.YtbabjnnbcgpcgaaRW.PrintWords Go.Proofs.YtbabjnnbcgpcgaaRW.PrintLast Go.Proofs.YtbabjnnbcgpcgaaRW.PrintMore
set_option linter.unusedVariables false
set_option linter.unusedSimpArgs false

theorem isum_cut (l : List Int) (m M : Nat) (h : m ≤ M) : isum ((l.take M).drop m) = isum (l.take M) - isum (l.take m) := by
  have e := List.take_append_drop m (l.take M)
  have e2 : (l.take M).take m = l.take m := by rw [List.take_take, Nat.min_eq_left h]
  rw [e2] at e
  have := isum_append (l.take m) ((l.take M).drop m)
  rw [e] at this
  omega
theorem between_val (s d : List Int) (h : hsB s d = true) (a b : Int) (ha : 0 ≤ a ∧ a ≤ (s.length : Int)) (hb : 0 ≤ b ∧ b ≤ (s.length : Int)) (k : Nat) (hk : 21 ≤ k) :
    impl_House_between.f k s d a b = some (isum (s.take (mx a b).toNat) - isum (s.take (mn a b).toNat)) ∧ 0 ≤ isum (s.take (mx a b).toNat) - isum (s.take (mn a b).toNat) := by
  have hm : 0 ≤ mn a b ∧ mn a b ≤ mx a b ∧ mx a b ≤ (s.length : Int) := by
    unfold mn mx
    split <;> split <;> omega
  have hsm := ((small_s h).take (mx a b).toNat).drop (mn a b).toNat
  rw [← isum_cut s _ _ (by omega)]
  refine ⟨?_, hsm.bd.1⟩
  simp only [impl_House_between.f]
  rw [if_pos hm.1, if_pos hm.2.1, if_pos hm.2.2, sum_val _ hsm k hk]
  rfl
theorem ldTo_val (s d : List Int) (h : hsB s d = true) (a : Int) (ha : 0 ≤ a ∧ a ≤ (s.length : Int)) (k : Nat) (hk : 21 ≤ k) : spec_ldTo.f k s d a = some (isum (s.take a.toNat)) := by
  simp only [spec_ldTo.f]
  rw [if_pos ha.1, if_pos ha.2, ldSum_val _ ((small_s h).take _) k hk]
  rfl

end Go.Proofs.YtbabjnnbcgpcgaaR.Pure
end

section
/- Plain lemmas on the functions of houses: what the printed functions of the program and of the reference tell, at every list that they are asked at here. No further condition. -/
namespace Go.Proofs.YtbabjnnbcgpcgaaR.Pure
open Go.RowKit Go.Proofs.YtbabjnnbcgpcgaaR.H Go.Proofs.YtbabjnnbcgpcgaaRW.PrintWords Go.Proofs.YtbabjnnbcgpcgaaRW.PrintLast Go.Proofs.YtbabjnnbcgpcgaaRW.PrintMore
set_option linter.unusedVariables false
set_option linter.unusedSimpArgs false

/-- The floor of a door: how many lists of doors come before it. -/
def fl : List Int → Int → Nat → Nat
  | [], _, i => i
  | x :: t, st, i => if st > x then fl t (st - x) (i + 1) else i
theorem floorOf_l (s l : List Int) (hl : Small l) (n : Nat) : ∀ (k i : Nat) (st : Int), i + n = l.length → n < k → 1 ≤ st → st ≤ isum (l.drop i) → impl_House_floorOf.l0 k st (i : Int) s l = some ((fl (l.drop i) st i : Nat) : Int) := by
  have h20 := hl.1
  induction n with
  | zero =>
    intro k i st hd hk h0 h1
    rw [List.drop_of_length_le (by omega)] at h1
    simp only [isum] at h1
    omega
  | succ n ih =>
    intro k i st hd hk h0 h1
    obtain ⟨k, rfl⟩ : ∃ m, k = m + 1 := ⟨k - 1, by omega⟩
    have hi : i < l.length := by omega
    have hb := hl.2 l[i] (List.getElem_mem hi)
    have hsb := (hl.drop i).bd
    rw [List.drop_eq_getElem_cons hi] at h1 ⊢
    simp only [isum] at h1
    have ew : wrap64 ((i : Int) + 1) = ((i + 1 : Nat) : Int) := by rw [wr (by omega) (by omega)]; omega
    have es : wrap64 (st - l[i]) = st - l[i] := by
      have := (hl.drop (i + 1)).bd
      exact wr (by omega) (by omega)
    simp only [impl_House_floorOf.l0, ew, rd_nat l i hi, es, fl]
    rw [if_pos (by omega), if_pos (by omega)]
    by_cases c : st > l[i]
    · rw [if_pos c, if_pos c, ih k (i + 1) _ (by omega) (by omega) (by omega) (by omega)]
    · rw [if_neg c, if_neg c]
theorem floorOf_val (s l : List Int) (hl : Small l) (st : Int) (h : 1 ≤ st ∧ st ≤ isum l) (k : Nat) (hk : 21 ≤ k) : impl_House_floorOf.f k s l st = some ((fl l st 0 : Nat) : Int) := by
  have h20 := hl.1
  have := floorOf_l s l hl l.length k 0 st (by omega) (by omega) h.1 (by simpa using h.2)
  simpa [impl_House_floorOf.f] using this
theorem ldOf_l : ∀ (k : Nat) (st i : Int) (s l : List Int), spec_ldOf.l0 k st i s l = impl_House_floorOf.l0 k st i s l := by
  intro k
  induction k with
  | zero => intros; rfl
  | succ k ih =>
    intro st i s l
    simp only [spec_ldOf.l0, impl_House_floorOf.l0, ih]
theorem ldOf_eq (k : Nat) (s l : List Int) (st : Int) : spec_ldOf.f k s l st = impl_House_floorOf.f k s l st := by
  simp only [spec_ldOf.f, impl_House_floorOf.f, ldOf_l]
theorem fl_lt (l : List Int) : ∀ (st : Int) (i : Nat), 1 ≤ st → st ≤ isum l → i ≤ fl l st i ∧ fl l st i < i + l.length := by
  induction l with
  | nil => intro st i h1 h2; simp only [isum] at h2; omega
  | cons x t ih =>
    intro st i h1 h2
    simp only [isum] at h2
    simp only [fl, List.length_cons]
    split
    · have := ih (st - x) (i + 1) (by omega) (by omega)
      omega
    · omega
theorem fl_ge (l : List Int) : ∀ (st : Int) (i : Nat), i ≤ fl l st i := by
  induction l with
  | nil => intro st i; exact Nat.le_refl _
  | cons x t ih =>
    intro st i
    simp only [fl]
    split
    · have := ih (st - x) (i + 1)
      omega
    · exact Nat.le_refl _
theorem fl_mono (l : List Int) : ∀ (a b : Int) (i : Nat), a ≤ b → fl l a i ≤ fl l b i := by
  induction l with
  | nil => intro a b i h; exact Nat.le_refl _
  | cons x t ih =>
    intro a b i h
    simp only [fl]
    by_cases c : a > x
    · rw [if_pos c, if_pos (show b > x by omega)]
      exact ih _ _ _ (by omega)
    · rw [if_neg c]
      split
      · have := fl_ge t (b - x) (i + 1)
        omega
      · exact Nat.le_refl _
/-- The floors of doors. -/
def FL (d : List Int) (x : Int) : Int := ((fl d x 0 : Nat) : Int)
/-- A house and doors of it. -/
def lsB (s d l : List Int) : Bool := hsB s d && (decide (1 ≤ (l.length : Int) ∧ (l.length : Int) ≤ 20) && l.all fun x => decide (1 ≤ x ∧ x ≤ isum d))
theorem lsB_facts {s d l : List Int} (h : lsB s d l = true) : hsB s d = true ∧ 1 ≤ l.length ∧ l.length ≤ 20 ∧ ∀ x ∈ l, 1 ≤ x ∧ x ≤ isum d := by
  simp only [lsB, Bool.and_eq_true, List.all_eq_true, decide_eq_true_eq] at h
  exact ⟨h.1, by omega, by omega, h.2.2⟩
theorem FL_bd {s d : List Int} (h : hsB s d = true) (x : Int) (hx : 1 ≤ x ∧ x ≤ isum d) : 0 ≤ FL d x ∧ FL d x ≤ (s.length : Int) := by
  have f := hsB_facts h
  have := fl_lt d x 0 hx.1 hx.2
  unfold FL
  omega
theorem floors_l (s d : List Int) (h : hsB s d = true) (l : List Int) (hl : l.length ≤ 20) (n : Nat) : ∀ (k i : Nat) (acc : List Int), i + n = l.length → n + 30 < k → acc.length ≤ i →
    impl_floorsOf.l0 k acc l (l.length : Int) (i : Int) s d = some (if (l.drop i).all (fun x => decide (1 ≤ x ∧ x ≤ isum d)) = true then (acc ++ (l.drop i).map (FL d), true) else ([], false)) := by
  induction n with
  | zero =>
    intro k i acc hd hk ha
    obtain ⟨k, rfl⟩ : ∃ m, k = m + 1 := ⟨k - 1, by omega⟩
    simp only [impl_floorsOf.l0]
    rw [if_neg (by omega), List.drop_of_length_le (by omega)]
    simp
  | succ n ih =>
    intro k i acc hd hk ha
    obtain ⟨k, rfl⟩ : ∃ m, k = m + 1 := ⟨k - 1, by omega⟩
    have hi : i < l.length := by omega
    have ew : wrap64 ((i : Int) + 1) = ((i + 1 : Nat) : Int) := by rw [wr (by omega) (by omega)]; omega
    simp only [impl_floorsOf.l0, ew, rd_nat l i hi, sum_val d (small_d h) k (by omega), within_eq, Option.bind_some]
    rw [if_pos (by omega), if_pos (by omega), if_pos (by omega), List.drop_eq_getElem_cons hi, List.all_cons]
    by_cases c : 1 ≤ l[i] ∧ l[i] ≤ isum d
    · rw [if_pos (decide_eq_true c), floorOf_val s d (small_d h) l[i] c k (by omega)]
      simp only [Option.bind_some]
      rw [if_pos (by omega), ih k (i + 1) _ (by omega) (by omega) (by simp only [List.length_append, List.length_singleton]; omega), decide_eq_true c, Bool.true_and, List.map_cons, List.append_assoc, List.singleton_append]
      rfl
    · rw [if_neg (by simpa using c), decide_eq_false c, Bool.false_and]
      rfl
theorem floorsOf_val (s d l : List Int) (hd : d.length ≤ 1048576) (k : Nat) (hk : 2000000 < k) : impl_floorsOf.f k s d l = some (if lsB s d l = true then (l.map (FL d), true) else ([], false)) := by
  obtain ⟨k, rfl⟩ : ∃ m, k = m + 1 := ⟨k - 1, by omega⟩
  by_cases h : hsB s d = true
  · by_cases hl : 1 ≤ (l.length : Int) ∧ (l.length : Int) ≤ 20
    · have e := floors_l s d h l (by omega) l.length k 0 [] (by omega) (by omega) (by simp)
      simp only [List.nil_append, Int.natCast_zero, List.drop_zero] at e
      have e2 : impl_floorsOf.l0 k [] l (l.length : Int) 0 s d = some (if (l.all fun x => decide (1 ≤ x ∧ x ≤ isum d)) = true then (l.map (FL d), true) else ([], false)) := e
      simp only [impl_floorsOf.f, impl_floorsOf.j0, within_eq, isHouse_eq s d (by omega), Option.bind_some, if_pos h, decide_eq_true hl, if_true, Bool.not_true, Bool.false_eq_true, if_false, e2, lsB, h, Bool.true_and]
    · have z : lsB s d l = false := by simp only [lsB, decide_eq_false hl, Bool.false_and, Bool.and_false]
      simp only [impl_floorsOf.f, impl_floorsOf.j0, within_eq, isHouse_eq s d (by omega), Option.bind_some, if_pos h, decide_eq_false hl, Bool.not_false, if_true, z, Bool.false_eq_true, if_false]
  · have z : lsB s d l = false := by simp only [lsB, Bool.eq_false_iff.mpr h, Bool.false_and]
    simp only [impl_floorsOf.f, impl_floorsOf.j0, isHouse_eq s d (by omega), Option.bind_some, if_neg h, if_true, z, Bool.false_eq_true, if_false]
theorem ldList_val (s d l : List Int) (hd : d.length ≤ 1048576) (k : Nat) (hk : 2000000 < k) : spec_ldList.f k s d l = some (lsB s d l) := by
  simp only [spec_ldList.f, ldGood_eq s d (by omega) k (by omega), in_eq, Option.bind_some, lsB]
  by_cases h : hsB s d = true
  · by_cases hl : 1 ≤ (l.length : Int) ∧ (l.length : Int) ≤ 20
    · simp only [if_pos h, decide_eq_true hl, if_true, ldSum_val d (small_d h) k (by omega), all_val 1 (isum d) l (by omega) k (by omega), Option.bind_some, h, Bool.true_and]
    · simp only [if_pos h, decide_eq_false hl, Bool.false_eq_true, if_false, Bool.false_and, Bool.and_false]
  · simp only [Bool.eq_false_iff.mpr h, Bool.false_eq_true, if_false, Bool.false_and]

end Go.Proofs.YtbabjnnbcgpcgaaR.Pure
end

section
/- Plain lemmas on the functions of houses: what the printed functions of the program and of the reference tell, at every list that they are asked at here. No further condition. -/
namespace Go.Proofs.YtbabjnnbcgpcgaaR.Pure
open Go.RowKit Go.Proofs.YtbabjnnbcgpcgaaR.H Go.Proofs.YtbabjnnbcgpcgaaRW.PrintWords Go.Proofs.YtbabjnnbcgpcgaaRW.PrintLast Go.Proofs.YtbabjnnbcgpcgaaRW.PrintMore
set_option linter.unusedVariables false
set_option linter.unusedSimpArgs false

def markL : List Int → Int → List Int
  | [], _ => []
  | _ :: t, c => c :: markL t (c + 1)
theorem markL_length (l : List Int) : ∀ c, (markL l c).length = l.length := by
  induction l with
  | nil => intro c; rfl
  | cons x t ih => intro c; simp only [markL, List.length_cons, ih]
theorem mark_l (l : List Int) : ∀ (k : Nat) (pre : List Int) (c : Int), 0 ≤ c → c + l.length ≤ 100000000 → pre.length + l.length ≤ 100000000 → l.length < k → laws_markIntS.l0 k (pre ++ l) c (pre.length : Int) = some (c + l.length, pre ++ markL l c) := by
  induction l with
  | nil =>
    intro k pre c h0 h1 h2 hk
    obtain ⟨k, rfl⟩ : ∃ m, k = m + 1 := ⟨k - 1, by omega⟩
    simp only [laws_markIntS.l0, markL, List.append_nil]
    rw [if_neg (by omega)]
    simp
  | cons x t ih =>
    intro k pre c h0 h1 h2 hk
    simp only [List.length_cons] at h1 h2 hk
    obtain ⟨k, rfl⟩ : ∃ m, k = m + 1 := ⟨k - 1, by omega⟩
    have ew : wrap64 ((pre.length : Int) + 1) = ((pre.length + 1 : Nat) : Int) := by rw [wr (by omega) (by omega)]; omega
    have ec : wrap64 (c + 1) = c + 1 := wr (by omega) (by omega)
    have es : (pre ++ x :: t).set ((pre.length : Int)).toNat c = (pre ++ [c]) ++ t := by
      rw [Int.toNat_natCast, List.set_append_right _ _ (Nat.le_refl _), Nat.sub_self]
      simp
    have el : (pre ++ [c]).length = pre.length + 1 := by simp
    have := ih k (pre ++ [c]) (c + 1) (by omega) (by omega) (by omega) (by omega)
    rw [el] at this
    simp only [laws_markIntS.l0, ew, ec, es]
    rw [if_pos (by simp only [List.length_append, List.length_cons]; omega), if_pos (by omega), this]
    simp only [markL, List.length_cons, List.append_assoc, List.singleton_append]
    congr 2
    omega
theorem mark_val (l : List Int) (c : Int) (h0 : 0 ≤ c) (hc : c ≤ 20000000) (hl : l.length ≤ 2000000) (k : Nat) (hk : 2000000 < k) : laws_markIntS.f k l c = some (c + (l.length : Int), markL l c) := by
  have := mark_l l k [] c h0 (by omega) (by simp; omega) (by omega)
  simpa [laws_markIntS.f] using this
theorem held_l (l : List Int) : ∀ (k : Nat) (pre : List Int) (c : Int), 0 ≤ c → c + l.length ≤ 100000000 → pre.length + l.length ≤ 100000000 → l.length < k → laws_heldIntS.l0 k (pre ++ markL l c) c (pre.length : Int) = some (c + l.length) := by
  induction l with
  | nil =>
    intro k pre c h0 h1 h2 hk
    obtain ⟨k, rfl⟩ : ∃ m, k = m + 1 := ⟨k - 1, by omega⟩
    simp only [laws_heldIntS.l0, markL, List.append_nil]
    rw [if_neg (by omega)]
    simp
  | cons x t ih =>
    intro k pre c h0 h1 h2 hk
    simp only [List.length_cons] at h1 h2 hk
    obtain ⟨k, rfl⟩ : ∃ m, k = m + 1 := ⟨k - 1, by omega⟩
    have ew : wrap64 ((pre.length : Int) + 1) = ((pre.length + 1 : Nat) : Int) := by rw [wr (by omega) (by omega)]; omega
    have ec : wrap64 (c + 1) = c + 1 := wr (by omega) (by omega)
    have el : (pre ++ [c]).length = pre.length + 1 := by simp
    have er : rd (pre ++ markL (x :: t) c) (pre.length : Int) = c := by simp [rd, List.getD, markL]
    have := ih k (pre ++ [c]) (c + 1) (by omega) (by omega) (by omega) (by omega)
    rw [el, List.append_assoc, List.singleton_append] at this
    simp only [laws_heldIntS.l0, ew, ec, er]
    rw [if_pos (by simp only [List.length_append, markL_length, List.length_cons]; omega), if_pos (by omega), if_pos trivial]
    simp only [markL]
    rw [this]
    simp only [List.length_cons]
    congr 1
    omega
theorem held_val (l : List Int) (c : Int) (h0 : 0 ≤ c) (hc : c ≤ 20000000) (hl : l.length ≤ 2000000) (k : Nat) (hk : 2000000 < k) : laws_heldIntS.f k (markL l c) c = some (c + (l.length : Int)) := by
  have := held_l l k [] c h0 (by omega) (by simp; omega) (by omega)
  simpa [laws_heldIntS.f] using this
theorem markHouse_val (s d : List Int) (hs : s.length ≤ 1048576) (hd : d.length ≤ 1048576) (k : Nat) (hk : 2000000 < k) : laws_markHouse.f k s d 1 = some (1 + (s.length : Int) + (d.length : Int), markL s 1, markL d (1 + (s.length : Int))) := by
  simp only [laws_markHouse.f, mark_val s 1 (by omega) (by omega) (by omega) k hk, mark_val d (1 + (s.length : Int)) (by omega) (by omega) (by omega) k hk, Option.bind_some]

end Go.Proofs.YtbabjnnbcgpcgaaR.Pure
end

/- The plain law of FnExactFirstLeastWalk: what the reference's function tells, the program's function tells, for every input. No further condition. -/
namespace Go.Proofs.YtbabjnnbcgpcgaaR.Pure
open Go.RowKit Go.Proofs.YtbabjnnbcgpcgaaR.H Go.Proofs.YtbabjnnbcgpcgaaRW.PrintWords Go.Proofs.YtbabjnnbcgpcgaaRW.PrintLast
set_option linter.unusedVariables false
set_option linter.unusedSimpArgs false

theorem wi (i : Nat) (h : i ≤ 1000) : wrap64 ((i : Int) + 1) = ((i + 1 : Nat) : Int) := by
  rw [wr (by omega) (by omega)]
  omega
theorem own_eq (l : List Int) (hl : l.length ≤ 2000000) : spec_l1Own.f l = some l := by
  simp only [spec_l1Own.f, Option.bind_some, List.nil_append, List.length_nil]
  rw [if_pos (by omega)]
/-- Where a number is put into a list: behind what isn't greater, looked for from the end. -/
def insK (l : List Int) (x : Int) : Nat → Nat
  | 0 => 0
  | k + 1 => if l.getD k 0 > x then insK l x k else k + 1
theorem insK_le (l : List Int) (x : Int) : ∀ k, insK l x k ≤ k := by
  intro k
  induction k with
  | zero => exact Nat.le_refl _
  | succ k ih =>
    simp only [insK]
    split
    · omega
    · exact Nat.le_refl _
def insL (l : List Int) (x : Int) : List Int := l.take (insK l x l.length) ++ x :: l.drop (insK l x l.length)
theorem insL_length (l : List Int) (x : Int) : (insL l x).length = l.length + 1 := by
  have := insK_le l x l.length
  unfold insL
  rw [List.length_append, List.length_cons, List.length_take, List.length_drop]
  omega
theorem insL_mem (l : List Int) (x y : Int) : y ∈ insL l x ↔ y ∈ l ∨ y = x := by
  unfold insL
  have e := List.take_append_drop (insK l x l.length) l
  constructor
  · intro h
    rcases List.mem_append.mp h with h | h
    · exact .inl (List.mem_of_mem_take h)
    · rcases List.mem_cons.mp h with h | h
      · exact .inr h
      · exact .inl (List.mem_of_mem_drop h)
  · intro h
    rcases h with h | h
    · rw [← e] at h
      rcases List.mem_append.mp h with h | h
      · exact List.mem_append_left _ h
      · exact List.mem_append_right _ (List.mem_cons_of_mem _ h)
    · subst h
      simp
/-- Each one not below the one before, from a first number on. -/
def Up (a : Int) : List Int → Prop
  | [] => True
  | x :: t => a ≤ x ∧ Up x t
theorem up_low {a b : Int} (h : b ≤ a) : ∀ {l : List Int}, Up a l → Up b l
  | [], _ => trivial
  | x :: t, hu => ⟨Int.le_trans h hu.1, hu.2⟩
theorem up_append {a : Int} : ∀ {l : List Int} {x : Int} {r : List Int}, Up a l → a ≤ x → (∀ y ∈ l, y ≤ x) → Up x r → Up a (l ++ x :: r)
  | [], x, r, _, h1, _, h3 => ⟨h1, h3⟩
  | y :: t, x, r, hu, h1, h2, h3 => ⟨hu.1, up_append hu.2 (h2 y (by simp)) (fun z hz => h2 z (by simp [hz])) h3⟩
theorem up_take {a : Int} : ∀ (n : Nat) {l : List Int}, Up a l → Up a (l.take n)
  | 0, _, _ => by simp [Up]
  | _ + 1, [], _ => by simp [Up]
  | n + 1, x :: t, hu => by
    rw [List.take_succ_cons]
    exact ⟨hu.1, up_take n hu.2⟩
theorem up_all {a : Int} : ∀ {l : List Int}, Up a l → ∀ y ∈ l, a ≤ y
  | [], _, y, hy => by simp at hy
  | x :: t, hu, y, hy => by
    rcases List.mem_cons.mp hy with e | e
    · subst e; exact hu.1
    · exact Int.le_trans hu.1 (up_all hu.2 y e)
theorem up_drop {a : Int} : ∀ (n : Nat) {l : List Int}, Up a l → ∀ x, (∀ y ∈ l.drop n, x ≤ y) → Up x (l.drop n)
  | 0, [], _, x, _ => by simp [Up]
  | 0, y :: t, hu, x, h => ⟨h y (by simp), hu.2⟩
  | n + 1, [], _, x, _ => by simp [Up]
  | n + 1, y :: t, hu, x, h => by
    rw [List.drop_succ_cons] at h ⊢
    exact up_drop n hu.2 x h
theorem up_get {a : Int} : ∀ {l : List Int}, Up a l → ∀ (i j : Nat), i ≤ j → j < l.length → l.getD i 0 ≤ l.getD j 0
  | [], _, i, j, _, h => by simp at h
  | x :: t, hu, 0, 0, _, _ => Int.le_refl _
  | x :: t, hu, 0, j + 1, _, h => by
    have hj : j < t.length := by simpa using h
    have : t.getD j 0 ∈ t := by
      rw [List.getD_eq_getElem?_getD, List.getElem?_eq_getElem hj]
      exact List.getElem_mem hj
    simpa using up_all hu.2 _ this
  | x :: t, hu, i + 1, j + 1, hij, h => by
    simpa using up_get hu.2 i j (by omega) (by simpa using h)
theorem insK_before (l : List Int) (x a : Int) (hu : Up a l) (k : Nat) (hk : k ≤ l.length) : (∀ y ∈ l.take (insK l x k), y ≤ x) ∧ ∀ i, insK l x k ≤ i → i < k → x < l.getD i 0 := by
  induction k with
  | zero => exact ⟨by simp [insK], fun i h1 h2 => by omega⟩
  | succ k ih =>
    have hi := ih (by omega)
    simp only [insK]
    split
    · rename_i c
      refine ⟨hi.1, fun i h1 h2 => ?_⟩
      rcases (show i < k ∨ i = k by omega) with z | z
      · exact hi.2 i h1 z
      · subst z; exact c
    · rename_i c
      refine ⟨fun y hy => ?_, fun i h1 h2 => by omega⟩
      obtain ⟨n, hn, e⟩ := List.mem_iff_getElem.mp hy
      rw [List.length_take] at hn
      rw [List.getElem_take] at e
      have g := up_get hu n k (by omega) (by omega)
      have e2 : l.getD n 0 = y := by rw [List.getD_eq_getElem?_getD, List.getElem?_eq_getElem (by omega)]; exact e
      omega
theorem insL_up (l : List Int) (x a : Int) (hu : Up a l) (hx : a ≤ x) : Up a (insL l x) := by
  have hk := insK_le l x l.length
  have hb := insK_before l x a hu l.length (Nat.le_refl _)
  unfold insL
  refine up_append (up_take _ hu) hx hb.1 (up_drop _ hu x fun y hy => ?_)
  obtain ⟨n, hn, e⟩ := List.mem_iff_getElem.mp hy
  rw [List.length_drop] at hn
  rw [List.getElem_drop] at e
  have := hb.2 (insK l x l.length + n) (by omega) (by omega)
  rw [List.getD_eq_getElem?_getD, List.getElem?_eq_getElem (by omega)] at this
  simp only [Option.getD_some] at this
  omega
theorem sort_in (out : List Int) (x : Int) (ho : out.length ≤ 100) (l : List Int) (i : Nat) (m : Nat) : ∀ (k : Nat), m ≤ out.length → m < k →
    ∃ k', k ≤ k' + m + 1 ∧ spec_ldSort.l1 k out x (m : Int) l (l.length : Int) (i : Int) = spec_ldSort.l0 k' (out.take (insK out x m) ++ x :: out.drop (insK out x m)) l (l.length : Int) (wrap64 ((i : Int) + 1)) := by
  induction m with
  | zero =>
    intro k hm hk
    obtain ⟨k, rfl⟩ : ∃ m, k = m + 1 := ⟨k - 1, by omega⟩
    refine ⟨k, by omega, ?_⟩
    simp only [spec_ldSort.l1, insK, Int.natCast_zero, Int.toNat_zero, List.take_zero, List.drop_zero, own_eq [] (by simp), Option.bind_some, List.nil_append, List.length_nil, List.length_singleton]
    rw [if_neg (by omega), if_pos (by omega), if_pos (by omega), if_pos (by omega), if_pos (by omega)]
    rfl
  | succ m ih =>
    intro k hm hk
    obtain ⟨k, rfl⟩ : ∃ m, k = m + 1 := ⟨k - 1, by omega⟩
    have e1 : wrap64 (((m + 1 : Nat) : Int) - 1) = (m : Int) := by rw [wr (by omega) (by omega)]; omega
    have er : rd out (m : Int) = out.getD m 0 := by simp [rd]
    have lt : (out.take (m + 1)).length ≤ 2000000 := by rw [List.length_take]; omega
    simp only [spec_ldSort.l1, e1, er, Int.toNat_natCast, own_eq _ lt, Option.bind_some, insK]
    rw [if_pos (by omega), if_pos (by omega), if_pos (by omega)]
    by_cases c : out.getD m 0 > x
    · rw [if_pos c, if_pos c]
      obtain ⟨k', hk', e⟩ := ih k (by omega) (by omega)
      exact ⟨k', by omega, e⟩
    · rw [if_neg c, if_neg c, if_pos (by omega), if_pos (by omega), if_pos (by rw [List.length_take]; omega), if_pos (by simp only [List.length_append, List.length_take, List.length_drop, List.length_singleton]; omega)]
      refine ⟨k, by omega, ?_⟩
      rw [List.append_assoc, List.singleton_append]
def sortL : List Int → List Int → List Int
  | [], acc => acc
  | x :: t, acc => sortL t (insL acc x)
theorem sort_out (l : List Int) (hl : l.length ≤ 20) (n : Nat) : ∀ (k i : Nat) (acc : List Int), i + n = l.length → 100 * n < k → acc.length ≤ i →
    spec_ldSort.l0 k acc l (l.length : Int) (i : Int) = some (sortL (l.drop i) acc) := by
  induction n with
  | zero =>
    intro k i acc hd hk ha
    obtain ⟨k, rfl⟩ : ∃ m, k = m + 1 := ⟨k - 1, by omega⟩
    simp only [spec_ldSort.l0]
    rw [if_neg (by omega), List.drop_of_length_le (by omega)]
    rfl
  | succ n ih =>
    intro k i acc hd hk ha
    obtain ⟨k, rfl⟩ : ∃ m, k = m + 1 := ⟨k - 1, by omega⟩
    have hi : i < l.length := by omega
    simp only [spec_ldSort.l0, rd_nat l i hi]
    rw [if_pos (by omega), if_pos (by omega), if_pos (by omega)]
    obtain ⟨k', hk', e⟩ := sort_in acc l[i] (by omega) l i acc.length k (Nat.le_refl _) (by omega)
    have il := insL_length acc l[i]
    rw [e, wi i (by omega), show acc.take (insK acc l[i] acc.length) ++ l[i] :: acc.drop (insK acc l[i] acc.length) = insL acc l[i] from rfl, ih k' (i + 1) _ (by omega) (by omega) (by omega), List.drop_eq_getElem_cons hi]
    rfl
theorem sortL_facts (l : List Int) (a : Int) : ∀ acc, Up a acc → (∀ x ∈ l, a ≤ x) → (sortL l acc).length = l.length + acc.length ∧ (∀ y, y ∈ sortL l acc ↔ y ∈ l ∨ y ∈ acc) ∧ Up a (sortL l acc) := by
  induction l with
  | nil => intro acc hu _; exact ⟨by simp [sortL], fun y => by simp [sortL], hu⟩
  | cons x t ih =>
    intro acc hu hl
    have h := ih (insL acc x) (insL_up acc x a hu (hl x (by simp))) (fun y hy => hl y (by simp [hy]))
    simp only [sortL]
    refine ⟨by rw [h.1, insL_length]; simp only [List.length_cons]; omega, fun y => ?_, h.2.2⟩
    rw [h.2.1 y, insL_mem]
    simp only [List.mem_cons]
    constructor
    · rintro (z | z | z)
      · exact .inl (.inr z)
      · exact .inr z
      · exact .inl (.inl z)
    · rintro ((z | z) | z)
      · exact .inr (.inr z)
      · exact .inl z
      · exact .inr (.inl z)
/-- The reference's sort. -/
theorem sort_run (l : List Int) (hl : l.length ≤ 20) (k : Nat) (hk : 2000000 < k) : spec_ldSort.f k l = some (sortL l []) := by
  have := sort_out l hl l.length k 0 [] (by omega) (by omega) (by simp)
  simpa [spec_ldSort.f] using this
def lowest : List Int → Int
  | [] => 0
  | x :: t => mn x (lowest t)
theorem lowest_le (l : List Int) : ∀ x ∈ l, lowest l ≤ x := by
  induction l with
  | nil => simp
  | cons y t ih =>
    intro x hx
    have hm : mn y (lowest t) ≤ y ∧ mn y (lowest t) ≤ lowest t := by unfold mn; split <;> omega
    simp only [lowest]
    rcases List.mem_cons.mp hx with e | e
    · subst e; exact hm.1
    · exact Int.le_trans hm.2 (ih x e)
theorem sort_val (l : List Int) (hl : l.length ≤ 20) : ∃ q : List Int, (∀ k, 2000000 < k → spec_ldSort.f k l = some q) ∧ q.length = l.length ∧ (∀ y, y ∈ q ↔ y ∈ l) ∧ Up (lowest l) q := by
  have h := sortL_facts l (lowest l) [] trivial (lowest_le l)
  exact ⟨sortL l [], fun k hk => sort_run l hl k hk, by simpa using h.1, fun y => by simpa using h.2.1 y, h.2.2⟩
def lastOf : List Int → Int → Int
  | [], a => a
  | x :: t, _ => lastOf t x
theorem lastOf_mem : ∀ (l : List Int) (a : Int), l ≠ [] → lastOf l a ∈ l
  | [], _, h => absurd rfl h
  | [x], _, _ => by simp [lastOf]
  | x :: y :: t, _, _ => by
    have := lastOf_mem (y :: t) x (by simp)
    simp only [lastOf] at this ⊢
    exact List.mem_cons_of_mem _ this
theorem up_lastOf : ∀ (l : List Int) (a : Int), Up a l → a ≤ lastOf l a
  | [], _, _ => Int.le_refl _
  | x :: t, a, hu => Int.le_trans hu.1 (up_lastOf t x hu.2)
theorem up_last : ∀ (l : List Int) (a : Int), Up a l → ∀ y ∈ l, y ≤ lastOf l a
  | [], _, _, y, hy => by simp at hy
  | x :: t, a, hu, y, hy => by
    rcases List.mem_cons.mp hy with e | e
    · subst e; exact up_lastOf t y hu.2
    · exact up_last t x hu.2 y e
theorem up_map (d : List Int) : ∀ (q : List Int) {a : Int}, Up a q → (∀ x ∈ q, 1 ≤ x ∧ x ≤ isum d) → Up 0 (q.map (FL d))
  | [], _, _, _ => trivial
  | x :: t, a, hu, hx => by
    have key : ∀ (t : List Int) (x : Int), Up x t → Up (FL d x) (t.map (FL d)) := by
      intro t
      induction t with
      | nil => intro x _; trivial
      | cons y t ih =>
        intro x hu
        refine ⟨?_, ih y hu.2⟩
        have := fl_mono d x y 0 hu.1
        unfold FL
        omega
    exact ⟨by unfold FL; omega, key t x hu.2⟩
theorem insL_perm (l : List Int) (x : Int) : (insL l x).Perm (x :: l) := by
  unfold insL
  have h := List.perm_middle (a := x) (l₁ := l.take (insK l x l.length)) (l₂ := l.drop (insK l x l.length))
  rwa [List.take_append_drop] at h
theorem sortL_perm (l : List Int) : ∀ acc, (sortL l acc).Perm (l ++ acc) := by
  induction l with
  | nil => intro acc; exact List.Perm.refl _
  | cons x t ih =>
    intro acc
    simp only [sortL]
    exact (ih (insL acc x)).trans (((insL_perm acc x).append_left t).trans List.perm_middle)
theorem up_pair {a : Int} : ∀ {l : List Int}, Up a l → l.Pairwise (fun x y => decide (x ≤ y) = true)
  | [], _ => List.Pairwise.nil
  | x :: t, hu => List.Pairwise.cons (fun y hy => decide_eq_true (up_all hu.2 y hy)) (up_pair hu.2)
theorem sort_is (l : List Int) : l.mergeSort (fun x y => decide (x ≤ y)) = sortL l [] := by
  have h := sortL_facts l (lowest l) [] trivial (lowest_le l)
  have hp : (sortL l []).Perm l := by simpa using sortL_perm l []
  have h1 := List.pairwise_mergeSort (le := fun x y : Int => decide (x ≤ y)) (fun a b c h1 h2 => by simp only [decide_eq_true_eq] at *; omega) (fun a b => by simp only [Bool.or_eq_true, decide_eq_true_eq]; omega) l
  have h2 := up_pair h.2.2
  exact List.Perm.eq_of_pairwise (le := fun x y : Int => decide (x ≤ y) = true) (fun a b _ _ h1 h2 => by simp only [decide_eq_true_eq] at *; omega) h1 h2 ((List.mergeSort_perm l _).trans hp.symm)
theorem val (s d l : List Int) (hs : s.length ≤ 1048576) (hd : d.length ≤ 1048576) : ∃ (q : List Int) (b : Bool), q.length ≤ 2000000 ∧ ∀ k, 2000000 < k → spec_FirstLeastWalk.f k s d l = some (q, b) ∧ impl_FirstLeastWalk.f k s d l = some (q, b) := by
  by_cases h : lsB s d l = true
  · have f := lsB_facts h
    have hq := sortL_facts l (lowest l) [] trivial (lowest_le l)
    refine ⟨sortL l [], true, by rw [hq.1]; have := f.2.2.1; simp only [List.length_nil]; omega, fun k hk => ?_⟩
    constructor
    · simp only [spec_FirstLeastWalk.f, ldList_val s d l hd k hk, Option.bind_some, if_pos h, sort_run l f.2.2.1 k hk]
    · simp only [impl_FirstLeastWalk.f, floorsOf_val s d l hd k hk, Option.bind_some, if_pos h, if_true]
      rw [if_pos ⟨by have := f.2.1; intro z; subst z; simp at this, by have := f.2.2.1; omega⟩, sort_is]
  · refine ⟨[], false, by simp, fun k hk => ?_⟩
    simp only [spec_FirstLeastWalk.f, impl_FirstLeastWalk.f, ldList_val s d l hd k hk, floorsOf_val s d l hd k hk, Option.bind_some, if_neg h, Bool.false_eq_true, if_false]
    exact ⟨trivial, trivial⟩
theorem FnExactFirstLeastWalk (l0_0 : List Int) (l0_1 : List Int) (l1 : List Int) (m0_0 : l0_0.length ≤ maxLen) (w0_0 : ∀ x ∈ l0_0, (Lit.int .i64 x).wf = true) (m0_1 : l0_1.length ≤ maxLen) (w0_1 : ∀ x ∈ l0_1, (Lit.int .i64 x).wf = true) (m1 : l1.length ≤ maxLen) (y1 : l1.length * 8 ≤ 140737488351232) (w1 : ∀ x ∈ l1, (Lit.int .i64 x).wf = true) : ∃ k, laws_FnExactFirstLeastWalk.f k l0_0 l0_1 l1 = some true := by
  by_cases hb : l1.length ≤ 1048576
  · rcases sz_val l0_0 l0_1 m0_0 m0_1 with ⟨hs, hd, n, e, hn⟩ | ⟨n, e, hn⟩
    · obtain ⟨l, b, hl, h⟩ := val l0_0 l0_1 l1 (by omega) (by omega)
      have hl1 : l1.length ≤ 2000000 := by omega
      have main : ∀ m : Nat, 2000001 ≤ m → laws_FnExactFirstLeastWalk.f (m + 3) l0_0 l0_1 l1 = some true := by
        intro m hm
        simp only [laws_FnExactFirstLeastWalk.f, laws_FnExactFirstLeastWalk.j0, laws_FnExactFirstLeastWalk.j1, laws_FnExactFirstLeastWalk.j2, e, Option.bind_some, if_neg hn, toHouse_val l0_0 l0_1 hs hd (m + 3) (by omega), toHouse_val l0_0 l0_1 hs hd (m + 2) (by omega), toHouse_val l0_0 l0_1 hs hd (m + 1) (by omega), toI_val l1 hl1 (m + 3) (by omega), toI_val l1 hl1 (m + 2) (by omega), toI_val l1 hl1 (m + 1) (by omega), (h (m + 3) (by omega)).1, (h (m + 3) (by omega)).2, (h (m + 1) (by omega)).2, eqI_val l hl (m + 3) (by omega), eqI_val l hl (m + 2) (by omega), eqI_val l hl (m + 1) (by omega), eqI_val l1 hl1 (m + 2) (by omega), eqHouse_val l0_0 l0_1 hs hd (m + 2) (by omega), markHouse_val l0_0 l0_1 hs hd (m + 2) (by omega), mark_val l1 (1 + (l0_0.length : Int) + (l0_1.length : Int)) (by omega) (by omega) hl1 (m + 2) (by omega), mark_val l 1 (by omega) (by omega) hl (m + 1) (by omega), held_val l 1 (by omega) (by omega) hl (m + 1) (by omega), held_val l 1 (by omega) (by omega) hl m (by omega), bne_self_eq_false, if_true, Bool.false_eq_true, if_false]
        rw [if_neg (by omega), if_neg (by omega), if_neg (by omega), if_neg (by omega)]
      exact ⟨2000001 + 3, main 2000001 (Nat.le_refl _)⟩
    · refine ⟨0, ?_⟩
      simp only [laws_FnExactFirstLeastWalk.f, e, Option.bind_some, if_pos hn]
      rw [if_neg (by omega)]
  · refine ⟨0, ?_⟩
    simp only [laws_FnExactFirstLeastWalk.f]
    rw [if_pos (by omega)]

end Go.Proofs.YtbabjnnbcgpcgaaR.Pure
