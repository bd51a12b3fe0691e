/- Plain lemmas on the functions of houses: what the printed functions of the program and of the reference tell, at every list that they are asked at here. No further condition. -/
import Derived.Test.YtbabjnnbcgpcgaaRHx35
import Derived.Test.YtbabjnnbcgpcgaaRHx36
import Derived.Test.YtbabjnnbcgpcgaaRHx39
import Derived.Test.YtbabjnnbcgpcgaaRHx40
import Derived.Test.YtbabjnnbcgpcgaaRHB
import Derived.Test.YtbabjnnbcgpcgaaRHS
namespace Go.Proofs.YtbabjnnbcgpcgaaR.Pure
open Go.RowKit Go.Proofs.YtbabjnnbcgpcgaaR.H Go.Proofs.YtbabjnnbcgpcgaaRW.PrintWords Go.Proofs.YtbabjnnbcgpcgaaRW.PrintLast Go.Proofs.YtbabjnnbcgpcgaaRW.PrintMore
set_option linter.unusedVariables false
set_option linter.unusedSimpArgs false

/-- The floor of a door: how many lists of doors come before it. -/
def fl : List Int → Int → Nat → Nat
  | [], _, i => i
  | x :: t, st, i => if st > x then fl t (st - x) (i + 1) else i
theorem floorOf_l (s l : List Int) (hl : Small l) (n : Nat) : ∀ (k i : Nat) (st : Int), i + n = l.length → n < k → 1 ≤ st → st ≤ isum (l.drop i) → impl_House_floorOf.l0 k st (i : Int) s l = some ((fl (l.drop i) st i : Nat) : Int) := by
  have h20 := hl.1
  induction n with
  | zero =>
    intro k i st hd hk h0 h1
    rw [List.drop_of_length_le (by omega)] at h1
    simp only [isum] at h1
    omega
  | succ n ih =>
    intro k i st hd hk h0 h1
    obtain ⟨k, rfl⟩ : ∃ m, k = m + 1 := ⟨k - 1, by omega⟩
    have hi : i < l.length := by omega
    have hb := hl.2 l[i] (List.getElem_mem hi)
    have hsb := (hl.drop i).bd
    rw [List.drop_eq_getElem_cons hi] at h1 ⊢
    simp only [isum] at h1
    have ew : wrap64 ((i : Int) + 1) = ((i + 1 : Nat) : Int) := by rw [wr (by omega) (by omega)]; omega
    have es : wrap64 (st - l[i]) = st - l[i] := by
      have := (hl.drop (i + 1)).bd
      exact wr (by omega) (by omega)
    simp only [impl_House_floorOf.l0, ew, rd_nat l i hi, es, fl]
    rw [if_pos (by omega), if_pos (by omega)]
    by_cases c : st > l[i]
    · rw [if_pos c, if_pos c, ih k (i + 1) _ (by omega) (by omega) (by omega) (by omega)]
    · rw [if_neg c, if_neg c]
theorem floorOf_val (s l : List Int) (hl : Small l) (st : Int) (h : 1 ≤ st ∧ st ≤ isum l) (k : Nat) (hk : 21 ≤ k) : impl_House_floorOf.f k s l st = some ((fl l st 0 : Nat) : Int) := by
  have h20 := hl.1
  have := floorOf_l s l hl l.length k 0 st (by omega) (by omega) h.1 (by simpa using h.2)
  simpa [impl_House_floorOf.f] using this
theorem ldOf_l : ∀ (k : Nat) (st i : Int) (s l : List Int), spec_ldOf.l0 k st i s l = impl_House_floorOf.l0 k st i s l := by
  intro k
  induction k with
  | zero => intros; rfl
  | succ k ih =>
    intro st i s l
    simp only [spec_ldOf.l0, impl_House_floorOf.l0, ih]
theorem ldOf_eq (k : Nat) (s l : List Int) (st : Int) : spec_ldOf.f k s l st = impl_House_floorOf.f k s l st := by
  simp only [spec_ldOf.f, impl_House_floorOf.f, ldOf_l]
theorem fl_lt (l : List Int) : ∀ (st : Int) (i : Nat), 1 ≤ st → st ≤ isum l → i ≤ fl l st i ∧ fl l st i < i + l.length := by
  induction l with
  | nil => intro st i h1 h2; simp only [isum] at h2; omega
  | cons x t ih =>
    intro st i h1 h2
    simp only [isum] at h2
    simp only [fl, List.length_cons]
    split
    · have := ih (st - x) (i + 1) (by omega) (by omega)
      omega
    · omega
theorem fl_ge (l : List Int) : ∀ (st : Int) (i : Nat), i ≤ fl l st i := by
  induction l with
  | nil => intro st i; exact Nat.le_refl _
  | cons x t ih =>
    intro st i
    simp only [fl]
    split
    · have := ih (st - x) (i + 1)
      omega
    · exact Nat.le_refl _
theorem fl_mono (l : List Int) : ∀ (a b : Int) (i : Nat), a ≤ b → fl l a i ≤ fl l b i := by
  induction l with
  | nil => intro a b i h; exact Nat.le_refl _
  | cons x t ih =>
    intro a b i h
    simp only [fl]
    by_cases c : a > x
    · rw [if_pos c, if_pos (show b > x by omega)]
      exact ih _ _ _ (by omega)
    · rw [if_neg c]
      split
      · have := fl_ge t (b - x) (i + 1)
        omega
      · exact Nat.le_refl _
/-- The floors of doors. -/
def FL (d : List Int) (x : Int) : Int := ((fl d x 0 : Nat) : Int)
/-- A house and doors of it. -/
def lsB (s d l : List Int) : Bool := hsB s d && (decide (1 ≤ (l.length : Int) ∧ (l.length : Int) ≤ 20) && l.all fun x => decide (1 ≤ x ∧ x ≤ isum d))
theorem lsB_facts {s d l : List Int} (h : lsB s d l = true) : hsB s d = true ∧ 1 ≤ l.length ∧ l.length ≤ 20 ∧ ∀ x ∈ l, 1 ≤ x ∧ x ≤ isum d := by
  simp only [lsB, Bool.and_eq_true, List.all_eq_true, decide_eq_true_eq] at h
  exact ⟨h.1, by omega, by omega, h.2.2⟩
theorem FL_bd {s d : List Int} (h : hsB s d = true) (x : Int) (hx : 1 ≤ x ∧ x ≤ isum d) : 0 ≤ FL d x ∧ FL d x ≤ (s.length : Int) := by
  have f := hsB_facts h
  have := fl_lt d x 0 hx.1 hx.2
  unfold FL
  omega
theorem floors_l (s d : List Int) (h : hsB s d = true) (l : List Int) (hl : l.length ≤ 20) (n : Nat) : ∀ (k i : Nat) (acc : List Int), i + n = l.length → n + 30 < k → acc.length ≤ i →
    impl_floorsOf.l0 k acc l (l.length : Int) (i : Int) s d = some (if (l.drop i).all (fun x => decide (1 ≤ x ∧ x ≤ isum d)) = true then (acc ++ (l.drop i).map (FL d), true) else ([], false)) := by
  induction n with
  | zero =>
    intro k i acc hd hk ha
    obtain ⟨k, rfl⟩ : ∃ m, k = m + 1 := ⟨k - 1, by omega⟩
    simp only [impl_floorsOf.l0]
    rw [if_neg (by omega), List.drop_of_length_le (by omega)]
    simp
  | succ n ih =>
    intro k i acc hd hk ha
    obtain ⟨k, rfl⟩ : ∃ m, k = m + 1 := ⟨k - 1, by omega⟩
    have hi : i < l.length := by omega
    have ew : wrap64 ((i : Int) + 1) = ((i + 1 : Nat) : Int) := by rw [wr (by omega) (by omega)]; omega
    simp only [impl_floorsOf.l0, ew, rd_nat l i hi, sum_val d (small_d h) k (by omega), within_eq, Option.bind_some]
    rw [if_pos (by omega), if_pos (by omega), if_pos (by omega), List.drop_eq_getElem_cons hi, List.all_cons]
    by_cases c : 1 ≤ l[i] ∧ l[i] ≤ isum d
    · rw [if_pos (decide_eq_true c), floorOf_val s d (small_d h) l[i] c k (by omega)]
      simp only [Option.bind_some]
      rw [if_pos (by omega), ih k (i + 1) _ (by omega) (by omega) (by simp only [List.length_append, List.length_singleton]; omega), decide_eq_true c, Bool.true_and, List.map_cons, List.append_assoc, List.singleton_append]
      rfl
    · rw [if_neg (by simpa using c), decide_eq_false c, Bool.false_and]
      rfl
theorem floorsOf_val (s d l : List Int) (hd : d.length ≤ 1048576) (k : Nat) (hk : 2000000 < k) : impl_floorsOf.f k s d l = some (if lsB s d l = true then (l.map (FL d), true) else ([], false)) := by
  obtain ⟨k, rfl⟩ : ∃ m, k = m + 1 := ⟨k - 1, by omega⟩
  by_cases h : hsB s d = true
  · by_cases hl : 1 ≤ (l.length : Int) ∧ (l.length : Int) ≤ 20
    · have e := floors_l s d h l (by omega) l.length k 0 [] (by omega) (by omega) (by simp)
      simp only [List.nil_append, Int.natCast_zero, List.drop_zero] at e
      have e2 : impl_floorsOf.l0 k [] l (l.length : Int) 0 s d = some (if (l.all fun x => decide (1 ≤ x ∧ x ≤ isum d)) = true then (l.map (FL d), true) else ([], false)) := e
      simp only [impl_floorsOf.f, impl_floorsOf.j0, within_eq, isHouse_eq s d (by omega), Option.bind_some, if_pos h, decide_eq_true hl, if_true, Bool.not_true, Bool.false_eq_true, if_false, e2, lsB, h, Bool.true_and]
    · have z : lsB s d l = false := by simp only [lsB, decide_eq_false hl, Bool.false_and, Bool.and_false]
      simp only [impl_floorsOf.f, impl_floorsOf.j0, within_eq, isHouse_eq s d (by omega), Option.bind_some, if_pos h, decide_eq_false hl, Bool.not_false, if_true, z, Bool.false_eq_true, if_false]
  · have z : lsB s d l = false := by simp only [lsB, Bool.eq_false_iff.mpr h, Bool.false_and]
    simp only [impl_floorsOf.f, impl_floorsOf.j0, isHouse_eq s d (by omega), Option.bind_some, if_neg h, if_true, z, Bool.false_eq_true, if_false]
theorem ldList_val (s d l : List Int) (hd : d.length ≤ 1048576) (k : Nat) (hk : 2000000 < k) : spec_ldList.f k s d l = some (lsB s d l) := by
  simp only [spec_ldList.f, ldGood_eq s d (by omega) k (by omega), in_eq, Option.bind_some, lsB]
  by_cases h : hsB s d = true
  · by_cases hl : 1 ≤ (l.length : Int) ∧ (l.length : Int) ≤ 20
    · simp only [if_pos h, decide_eq_true hl, if_true, ldSum_val d (small_d h) k (by omega), all_val 1 (isum d) l (by omega) k (by omega), Option.bind_some, h, Bool.true_and]
    · simp only [if_pos h, decide_eq_false hl, Bool.false_eq_true, if_false, Bool.false_and, Bool.and_false]
  · simp only [Bool.eq_false_iff.mpr h, Bool.false_eq_true, if_false, Bool.false_and]

end Go.Proofs.YtbabjnnbcgpcgaaR.Pure
