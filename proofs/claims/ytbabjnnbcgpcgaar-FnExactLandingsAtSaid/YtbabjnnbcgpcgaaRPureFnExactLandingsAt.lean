/- The plain law of FnExactLandingsAt: what the reference's function tells, the program's function tells, for every input. No further condition. -/
import Derived.Test.YtbabjnnbcgpcgaaRHx24
import Derived.Test.YtbabjnnbcgpcgaaRHB
import Derived.Test.YtbabjnnbcgpcgaaRHS
import Derived.Test.YtbabjnnbcgpcgaaRHW
import Derived.Test.YtbabjnnbcgpcgaaRHM
namespace Go.Proofs.YtbabjnnbcgpcgaaR.Pure
open Go.RowKit Go.Proofs.YtbabjnnbcgpcgaaR.H Go.Proofs.YtbabjnnbcgpcgaaRW.PrintWords Go.Proofs.YtbabjnnbcgpcgaaRW.PrintLast
set_option linter.unusedVariables false
set_option linter.unusedSimpArgs false

/-- The landings of one stair: from step st on, at most d of them. -/
def landI (most at_ n : Int) : Nat → Int → List Int
  | 0, _ => []
  | d + 1, st => if st < n then wrap64 (at_ + st) :: landI most at_ n d (st + most) else []
theorem landI_length (most at_ n : Int) (d : Nat) : ∀ st, (landI most at_ n d st).length ≤ d := by
  induction d with
  | zero => intro st; exact Nat.le_refl _
  | succ d ih =>
    intro st
    simp only [landI]
    split
    · have := ih (st + most)
      simp only [List.length_cons]
      omega
    · simp
theorem landI_none (most at_ n : Int) (d : Nat) (st : Int) (h : ¬ st < n) : landI most at_ n d st = [] := by
  cases d with
  | zero => rfl
  | succ d =>
    simp only [landI]
    rw [if_neg h]
/-- The landings of all stairs. -/
def landO (most : Int) : List Int → Int → List Int
  | [], _ => []
  | x :: t, at_ => landI most at_ x 60 most ++ landO most t (at_ + x)
theorem landO_length (most : Int) (l : List Int) : ∀ at_, (landO most l at_).length ≤ 60 * l.length := by
  induction l with
  | nil => intro at_; simp [landO]
  | cons x t ih =>
    intro at_
    have h1 := ih (at_ + x)
    have h2 := landI_length most at_ x 60 most
    simp only [landO, List.length_append, List.length_cons]
    omega
theorem impl_in (most at_ n : Int) (hm : 1 ≤ most ∧ most ≤ 40) (hn : n ≤ 40) (l : List Int) (i : Nat) (d : Nat) : ∀ (k : Nat) (acc : List Int) (st : Int), 1 ≤ st → st ≤ 100 → n - st ≤ d → d < k → acc.length + d ≤ 100000 →
    ∃ k', k ≤ k' + d + 1 ∧ impl_LandingsAt.l1 k most acc at_ n st l (l.length : Int) (i : Int) = impl_LandingsAt.l0 k' most (acc ++ landI most at_ n d st) (wrap64 (at_ + n)) l (l.length : Int) (wrap64 ((i : Int) + 1)) := by
  induction d with
  | zero =>
    intro k acc st h1 h2 hd hk ha
    obtain ⟨k, rfl⟩ : ∃ m, k = m + 1 := ⟨k - 1, by omega⟩
    refine ⟨k, by omega, ?_⟩
    simp only [impl_LandingsAt.l1, landI, List.append_nil]
    rw [if_neg (by omega)]
  | succ d ih =>
    intro k acc st h1 h2 hd hk ha
    obtain ⟨k, rfl⟩ : ∃ m, k = m + 1 := ⟨k - 1, by omega⟩
    simp only [impl_LandingsAt.l1]
    by_cases c : st < n
    · have es : wrap64 (st + most) = st + most := wr (by omega) (by omega)
      rw [if_pos c, if_pos (by omega), es]
      obtain ⟨k', hk', e⟩ := ih k (acc ++ [wrap64 (at_ + st)]) (st + most) (by omega) (by omega) (by omega) (by omega) (by simp only [List.length_append, List.length_singleton]; omega)
      refine ⟨k', by omega, ?_⟩
      rw [e]
      simp only [landI]
      rw [if_pos c]
      simp
    · rw [if_neg c, landI_none most at_ n (d + 1) st c, List.append_nil]
      exact ⟨k, by omega, rfl⟩
theorem landI_more (most at_ n : Int) (hm : 1 ≤ most) (d : Nat) : ∀ (e : Nat) (st : Int), n - st ≤ d → n - st ≤ e → landI most at_ n d st = landI most at_ n e st := by
  induction d with
  | zero =>
    intro e st h1 h2
    rw [landI_none most at_ n e st (by omega)]
    rfl
  | succ d ih =>
    intro e st h1 h2
    by_cases c : st < n
    · obtain ⟨e, rfl⟩ : ∃ m, e = m + 1 := ⟨e - 1, by omega⟩
      simp only [landI]
      rw [if_pos c, if_pos c, ih e (st + most) (by omega) (by omega)]
    · rw [landI_none most at_ n _ st c, landI_none most at_ n _ st c]
theorem impl_out (most : Int) (hm : 1 ≤ most ∧ most ≤ 40) (l : List Int) (hl : Small l) (n : Nat) : ∀ (k i : Nat) (acc : List Int) (at_ : Int), i + n = l.length → 100 * n < k → 0 ≤ at_ → at_ ≤ 40 * i → acc.length ≤ 60 * i →
    impl_LandingsAt.l0 k most acc at_ l (l.length : Int) (i : Int) = some (acc ++ landO most (l.drop i) at_, true) := by
  have h20 := hl.1
  induction n with
  | zero =>
    intro k i acc at_ hd hk h0 h1 ha
    obtain ⟨k, rfl⟩ : ∃ m, k = m + 1 := ⟨k - 1, by omega⟩
    simp only [impl_LandingsAt.l0]
    rw [if_neg (by omega), List.drop_of_length_le (by omega)]
    simp [landO]
  | succ n ih =>
    intro k i acc at_ hd hk h0 h1 ha
    obtain ⟨k, rfl⟩ : ∃ m, k = m + 1 := ⟨k - 1, by omega⟩
    have hi : i < l.length := by omega
    have hb := hl.2 l[i] (List.getElem_mem hi)
    have ew : wrap64 ((i : Int) + 1) = ((i + 1 : Nat) : Int) := by rw [wr (by omega) (by omega)]; omega
    have ea : wrap64 (at_ + l[i]) = at_ + l[i] := wr (by omega) (by omega)
    simp only [impl_LandingsAt.l0, rd_nat l i hi]
    rw [if_pos (by omega), if_pos (by omega), if_pos (by omega)]
    obtain ⟨k', hk', e⟩ := impl_in most at_ l[i] hm (by omega) l i 60 k acc most (by omega) (by omega) (by omega) (by omega) (by omega)
    rw [e, ew, ea]
    have hli := landI_length most at_ l[i] 60 most
    rw [ih k' (i + 1) _ (at_ + l[i]) (by omega) (by omega) (by omega) (by omega) (by simp only [List.length_append]; omega), List.drop_eq_getElem_cons hi]
    simp [landO]
theorem spec_in (s d : List Int) (h : hsB s d = true) (most n : Int) (hm : 1 ≤ most ∧ most ≤ 40) (hn : n ≤ 40) (l : List Int) (i : Nat) (his : i ≤ s.length) (m : Nat) : ∀ (k : Nat) (acc : List Int) (st : Int), 1 ≤ st → st ≤ 100 → n - st ≤ m → m + 30 < k → acc.length + m ≤ 100000 →
    ∃ k', k ≤ k' + m + 1 ∧ spec_ldLandings.l1 k most acc (i : Int) n st l (l.length : Int) (i : Int) s d = spec_ldLandings.l0 k' most (acc ++ landI most (isum (s.take i)) n m st) l (l.length : Int) (wrap64 ((i : Int) + 1)) s d := by
  induction m with
  | zero =>
    intro k acc st h1 h2 hd hk ha
    obtain ⟨k, rfl⟩ : ∃ m, k = m + 1 := ⟨k - 1, by omega⟩
    refine ⟨k, by omega, ?_⟩
    simp only [spec_ldLandings.l1, landI, List.append_nil]
    rw [if_neg (by omega)]
  | succ m ih =>
    intro k acc st h1 h2 hd hk ha
    obtain ⟨k, rfl⟩ : ∃ m, k = m + 1 := ⟨k - 1, by omega⟩
    simp only [spec_ldLandings.l1]
    by_cases c : st < n
    · have es : wrap64 (st + most) = st + most := wr (by omega) (by omega)
      have et := ldTo_val s d h (i : Int) ⟨by omega, by omega⟩ k (by omega)
      rw [Int.toNat_natCast] at et
      rw [if_pos c, et]
      simp only [Option.bind_some]
      rw [if_pos (by omega), es]
      obtain ⟨k', hk', e⟩ := ih k (acc ++ [wrap64 (isum (s.take i) + st)]) (st + most) (by omega) (by omega) (by omega) (by omega) (by simp only [List.length_append, List.length_singleton]; omega)
      refine ⟨k', by omega, ?_⟩
      rw [e]
      simp only [landI]
      rw [if_pos c]
      simp
    · rw [if_neg c, landI_none most _ n (m + 1) st c, List.append_nil]
      exact ⟨k, by omega, rfl⟩
theorem isum_take_succ (l : List Int) (i : Nat) (hi : i < l.length) : isum (l.take (i + 1)) = isum (l.take i) + l[i] := by
  rw [List.take_succ_eq_append_getElem hi, isum_append]
  simp [isum]
theorem spec_out (s d : List Int) (h : hsB s d = true) (most : Int) (hm : 1 ≤ most ∧ most ≤ 40) (n : Nat) : ∀ (k i : Nat) (acc : List Int), i + n = s.length → 100 * n + 50 < k → acc.length ≤ 60 * i →
    spec_ldLandings.l0 k most acc s (s.length : Int) (i : Int) s d = some (acc ++ landO most (s.drop i) (isum (s.take i))) := by
  have hl := small_s h
  have h20 := hl.1
  induction n with
  | zero =>
    intro k i acc hd hk ha
    obtain ⟨k, rfl⟩ : ∃ m, k = m + 1 := ⟨k - 1, by omega⟩
    simp only [spec_ldLandings.l0]
    rw [if_neg (by omega), List.drop_of_length_le (by omega)]
    simp [landO]
  | succ n ih =>
    intro k i acc hd hk ha
    obtain ⟨k, rfl⟩ : ∃ m, k = m + 1 := ⟨k - 1, by omega⟩
    have hi : i < s.length := by omega
    have hb := hl.2 s[i] (List.getElem_mem hi)
    have ew : wrap64 ((i : Int) + 1) = ((i + 1 : Nat) : Int) := by rw [wr (by omega) (by omega)]; omega
    simp only [spec_ldLandings.l0, rd_nat s i hi]
    rw [if_pos (by omega), if_pos (by omega), if_pos (by omega)]
    obtain ⟨k', hk', e⟩ := spec_in s d h most s[i] hm (by omega) s i (by omega) 60 k acc most (by omega) (by omega) (by omega) (by omega) (by omega)
    rw [e, ew]
    have hli := landI_length most (isum (s.take i)) s[i] 60 most
    rw [ih k' (i + 1) _ (by omega) (by omega) (by simp only [List.length_append]; omega), List.drop_eq_getElem_cons hi, isum_take_succ s i hi]
    simp [landO]
theorem landings_impl (s d : List Int) (hd : d.length ≤ 1048576) (a : Int) (k : Nat) (hk : 2000000 < k) : impl_LandingsAt.f k s d a = some (if hsB s d = true ∧ 1 ≤ a ∧ a ≤ 40 then (landO a s 0, true) else ([], false)) := by
  obtain ⟨k, rfl⟩ : ∃ m, k = m + 1 := ⟨k - 1, by omega⟩
  by_cases h : hsB s d = true
  · by_cases ha : 1 ≤ a ∧ a ≤ 40
    · have hl := small_s h
      have h20 := hl.1
      have e := impl_out a ha s hl s.length k 0 [] 0 (by omega) (by omega) (by omega) (by omega) (by simp)
      simp only [List.nil_append, Int.natCast_zero, List.drop_zero] at e
      have e2 : impl_LandingsAt.l0 k a [] 0 s (s.length : Int) 0 = some (landO a s 0, true) := e
      simp [impl_LandingsAt.f, impl_LandingsAt.j0, within_eq, isHouse_eq s d (by omega), h, ha, e2]
    · simp [impl_LandingsAt.f, impl_LandingsAt.j0, within_eq, isHouse_eq s d (by omega), h, ha]
  · simp [impl_LandingsAt.f, impl_LandingsAt.j0, isHouse_eq s d (by omega), h]
theorem landings_spec (s d : List Int) (h : hsB s d = true) (a : Int) (ha : 1 ≤ a ∧ a ≤ 40) (k : Nat) (hk : 2000000 < k) : spec_ldLandings.f k s d a = some (landO a s 0) := by
  have hl := small_s h
  have h20 := hl.1
  have e := spec_out s d h a ha s.length k 0 [] (by omega) (by omega) (by simp)
  simp only [List.nil_append, List.drop_zero, List.take_zero, isum] at e
  simp only [spec_ldLandings.f]
  exact e
theorem ldMost_eq (s d : List Int) (hd : d.length ≤ 1048576) (a : Int) (k : Nat) (hk : 20 ≤ k) : spec_ldMost.f k s d a = some (hsB s d && decide (1 ≤ a ∧ a ≤ 40)) := by
  simp only [spec_ldMost.f, ldGood_eq s d (by omega) k hk, in_eq, Option.bind_some]
  by_cases h : hsB s d = true <;> simp [h]
theorem val (s d : List Int) (a : Int) (hs : s.length ≤ 1048576) (hd : d.length ≤ 1048576) : ∃ (l : List Int) (b : Bool), l.length ≤ 2000000 ∧ ∀ k, 2000000 < k → spec_LandingsAt.f k s d a = some (l, b) ∧ impl_LandingsAt.f k s d a = some (l, b) := by
  by_cases h : hsB s d = true ∧ 1 ≤ a ∧ a ≤ 40
  · have f := hsB_facts h.1
    refine ⟨landO a s 0, true, Nat.le_trans (landO_length a s 0) (by omega), fun k hk => ?_⟩
    simp [spec_LandingsAt.f, landings_impl s d hd a k hk, landings_spec s d h.1 a h.2 k hk, ldMost_eq s d hd a k (by omega), h]
  · refine ⟨[], false, by simp, fun k hk => ?_⟩
    have h' : ¬ (hsB s d && decide (1 ≤ a ∧ a ≤ 40)) = true := by simpa using h
    simp only [spec_LandingsAt.f, landings_impl s d hd a k hk, ldMost_eq s d hd a k (by omega), Option.bind_some, if_neg h, if_neg h']
    exact ⟨trivial, trivial⟩
theorem FnExactLandingsAt (l0_0 : List Int) (l0_1 : List Int) (a1 : Int) (m0_0 : l0_0.length ≤ maxLen) (w0_0 : ∀ x ∈ l0_0, (Lit.int .i64 x).wf = true) (m0_1 : l0_1.length ≤ maxLen) (w0_1 : ∀ x ∈ l0_1, (Lit.int .i64 x).wf = true) (w1 : (Lit.int .i64 a1).wf = true) : ∃ k, laws_FnExactLandingsAt.f k l0_0 l0_1 a1 = some true := by
  rcases sz_val l0_0 l0_1 m0_0 m0_1 with ⟨hs, hd, n, e, hn⟩ | ⟨n, e, hn⟩
  · obtain ⟨l, b, hl, h⟩ := val l0_0 l0_1 a1 (by omega) (by omega)
    have main : ∀ m : Nat, 2000001 ≤ m → laws_FnExactLandingsAt.f (m + 3) l0_0 l0_1 a1 = some true := by
      intro m hm
      simp only [laws_FnExactLandingsAt.f, laws_FnExactLandingsAt.j0, laws_FnExactLandingsAt.j1, laws_FnExactLandingsAt.j2, e, Option.bind_some, if_neg hn, toHouse_val l0_0 l0_1 hs hd (m + 3) (by omega), toHouse_val l0_0 l0_1 hs hd (m + 2) (by omega), toHouse_val l0_0 l0_1 hs hd (m + 1) (by omega), (h (m + 3) (by omega)).1, (h (m + 3) (by omega)).2, (h (m + 1) (by omega)).2, eqI_val l hl (m + 3) (by omega), eqI_val l hl (m + 2) (by omega), eqI_val l hl (m + 1) (by omega), eqHouse_val l0_0 l0_1 hs hd (m + 2) (by omega), markHouse_val l0_0 l0_1 hs hd (m + 2) (by omega), mark_val l 1 (by omega) (by omega) hl (m + 1) (by omega), held_val l 1 (by omega) (by omega) hl (m + 1) (by omega), held_val l 1 (by omega) (by omega) hl m (by omega), bne_self_eq_false, if_true, Bool.false_eq_true, if_false]
      rw [if_neg (by omega), if_neg (by omega), if_neg (by omega)]
    exact ⟨2000001 + 3, main 2000001 (Nat.le_refl _)⟩
  · exact ⟨0, by simp only [laws_FnExactLandingsAt.f, e, Option.bind_some, if_pos hn]⟩

end Go.Proofs.YtbabjnnbcgpcgaaR.Pure
