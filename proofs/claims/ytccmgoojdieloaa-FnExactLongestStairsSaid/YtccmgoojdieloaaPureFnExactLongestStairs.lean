/- The plain law of FnExactLongestStairs: what the reference's function tells, the program's function tells, for every input. No further condition. -/
import Derived.Test.YtccmgoojdieloaaHx39
import Derived.Test.YtccmgoojdieloaaHB
namespace Go.Proofs.Ytccmgoojdieloaa.Pure
open Go.RowKit Go.Proofs.Ytccmgoojdieloaa.H Go.Proofs.YtccmgoojdieloaaW.PrintWords Go.Proofs.YtccmgoojdieloaaW.PrintLast
set_option linter.unusedVariables false
set_option linter.unusedSimpArgs false

theorem mxl_ge (t : List Int) : ∀ m, m ≤ mxl t m ∧ (∀ x ∈ t, x ≤ mxl t m) ∧ (mxl t m = m ∨ mxl t m ∈ t) := by
  induction t with
  | nil => intro m; exact ⟨Int.le_refl _, by simp, .inl rfl⟩
  | cons x t ih =>
    intro m
    have h := ih (mx m x)
    have hm : m ≤ mx m x ∧ x ≤ mx m x ∧ (mx m x = m ∨ mx m x = x) := by unfold mx; split <;> omega
    simp only [mxl]
    refine ⟨by omega, fun y hy => ?_, ?_⟩
    · rcases List.mem_cons.mp hy with e | e
      · subst e; omega
      · exact h.2.1 y e
    · rcases h.2.2 with e | e
      · rcases hm.2.2 with z | z
        · exact .inl (by rw [e, z])
        · exact .inr (by rw [e, z]; simp)
      · exact .inr (by simp [e])
theorem mxl_val (l : List Int) (h : 0 < l.length) : mxl (l.drop 1) (rd l 0) ∈ l ∧ ∀ x ∈ l, x ≤ mxl (l.drop 1) (rd l 0) := by
  cases l with
  | nil => simp at h
  | cons y t =>
    have e : rd (y :: t) 0 = y := rfl
    have g := mxl_ge t y
    simp only [List.drop_one, List.tail_cons, e]
    refine ⟨?_, fun x hx => ?_⟩
    · rcases g.2.2 with z | z
      · rw [z]; simp
      · simp [z]
    · rcases List.mem_cons.mp hx with z | z
      · subst z; exact g.1
      · exact g.2.1 x z
theorem idx_l (l : List Int) (hl : l.length ≤ 1000) (M : Int) (q : Nat) (hq : q < l.length) (hM : l[q] = M) (hb : ∀ j (hj : j < l.length), j < q → l[j] ≠ M) (n : Nat) : ∀ (k i : Nat), i + n = q → n < k → slices_Index_int_int.l0 k l M (l.length : Int) (i : Int) = some (q : Int) := by
  induction n with
  | zero =>
    intro k i hd hk
    obtain ⟨k, rfl⟩ : ∃ m, k = m + 1 := ⟨k - 1, by omega⟩
    obtain rfl : i = q := by omega
    simp only [slices_Index_int_int.l0, rd_nat l i hq]
    rw [if_pos (by omega), if_pos (by omega), if_pos (by omega), if_pos hM.symm]
  | succ n ih =>
    intro k i hd hk
    obtain ⟨k, rfl⟩ : ∃ m, k = m + 1 := ⟨k - 1, by omega⟩
    have hi : i < l.length := by omega
    have ew : wrap64 ((i : Int) + 1) = ((i + 1 : Nat) : Int) := by rw [wr (by omega) (by omega)]; omega
    simp only [slices_Index_int_int.l0, ew, rd_nat l i hi]
    rw [if_pos (by omega), if_pos (by omega), if_pos (by omega), if_neg (fun z => hb i hi (by omega) z.symm), ih k (i + 1) (by omega) (by omega)]
theorem spec_l (l d : List Int) (hl : l.length ≤ 1000) (q : Nat) (hq : q < l.length) (hM : ∀ j (hj : j < l.length), l[j] ≤ l[q]) (hb : ∀ j (hj : j < l.length), j < q → l[j] < l[q]) (n : Nat) : ∀ (k i b : Nat) (hbl : b < l.length), i + n = l.length → n < k → b ≤ i → (∀ j (hj : j < l.length), j < i → l[j] ≤ l[b]) → (∀ j (hj : j < l.length), j < b → l[j] < l[b]) → (b = 0 ∨ b < i) → spec_LongestStairs.l0 k (b : Int) l (l.length : Int) (i : Int) l d = some ((q : Int), l[q], true) := by
  induction n with
  | zero =>
    intro k i b hbl hd hk hbi h1 h2 h3
    obtain ⟨k, rfl⟩ : ∃ m, k = m + 1 := ⟨k - 1, by omega⟩
    have e : b = q := by
      rcases Nat.lt_trichotomy b q with c | c | c
      · have := hb b hbl c
        have := h1 q hq (by omega)
        omega
      · exact c
      · have := h2 q hq c
        have := hM b hbl
        omega
    subst e
    simp only [spec_LongestStairs.l0, rd_nat l b hbl]
    rw [if_neg (by omega), if_pos (by omega), if_pos (by omega)]
  | succ n ih =>
    intro k i b hbl hd hk hbi h1 h2 h3
    obtain ⟨k, rfl⟩ : ∃ m, k = m + 1 := ⟨k - 1, by omega⟩
    have hi : i < l.length := by omega
    have ew : wrap64 ((i : Int) + 1) = ((i + 1 : Nat) : Int) := by rw [wr (by omega) (by omega)]; omega
    simp only [spec_LongestStairs.l0, ew, rd_nat l i hi, rd_nat l b hbl]
    rw [if_pos (by omega), if_pos (by omega), if_pos (by omega), if_pos (by omega), if_pos (by omega)]
    by_cases c : l[i] > l[b]
    · rw [if_pos c]
      refine ih k (i + 1) i hi (by omega) (by omega) (by omega) (fun j hj hji => ?_) (fun j hj hji => ?_) (by omega)
      · rcases (show j < i ∨ j = i by omega) with z | z
        · have := h1 j hj z
          omega
        · subst z
          exact Int.le_refl _
      · have := h1 j hj hji
        omega
    · rw [if_neg c]
      refine ih k (i + 1) b hbl (by omega) (by omega) (by omega) (fun j hj hji => ?_) h2 (by omega)
      rcases (show j < i ∨ j = i by omega) with z | z
      · exact h1 j hj z
      · subst z
        omega
theorem first_of (l : List Int) (M : Int) (h : M ∈ l) : ∃ (q : Nat) (hq : q < l.length), l[q] = M ∧ ∀ j (hj : j < l.length), j < q → l[j] ≠ M := by
  induction l with
  | nil => simp at h
  | cons x t ih =>
    by_cases c : x = M
    · exact ⟨0, by simp, c, fun j hj hj0 => by omega⟩
    · have ht : M ∈ t := by
        rcases List.mem_cons.mp h with e | e
        · exact absurd e.symm c
        · exact e
      obtain ⟨q, hq, e, hb⟩ := ih ht
      refine ⟨q + 1, by simp only [List.length_cons]; omega, by simpa using e, fun j hj hjq => ?_⟩
      cases j with
      | zero => simpa using c
      | succ j => simpa using hb j (by simpa using hj) (by omega)
theorem val (s d : List Int) (hs : s.length ≤ 1048576) (hd : d.length ≤ 1048576) : ∃ r, ∀ k, 2000000 < k → spec_LongestStairs.f k s d = some r ∧ impl_LongestStairs.f k s d = some r := by
  by_cases h : hsB s d = true
  · have f := hsB_facts h
    have hl0 : 0 < s.length := by omega
    have hM := mxl_val s (by omega)
    obtain ⟨q, hq, e, hb⟩ := first_of s (mxl (s.drop 1) (rd s 0)) hM.1
    have hge : ∀ j (hj : j < s.length), s[j] ≤ s[q] := fun j hj => by rw [e]; exact hM.2 _ (List.getElem_mem hj)
    have hlt : ∀ j (hj : j < s.length), j < q → s[j] < s[q] := fun j hj hjq => by
      have := hb j hj hjq
      have := hge j hj
      rw [← e] at *
      omega
    refine ⟨((q : Int), s[q], true), fun k hk => ?_⟩
    have e1 := spec_l s d (by omega) q hq hge hlt s.length k 0 0 (by omega) (by omega) (by omega) (by omega) (fun j hj h0 => by omega) (fun j hj h0 => by omega) (.inl rfl)
    have e2 := idx_l s (by omega) (mxl (s.drop 1) (rd s 0)) q hq e hb q k 0 (by omega) (by omega)
    have e3 : slices_Max_int_int.f s = some (mxl (s.drop 1) (rd s 0)) := by
      unfold slices_Max_int_int.f
      rw [if_pos ⟨hl0, by omega⟩]
    constructor
    · simp only [spec_LongestStairs.f, ldGood_eq s d (by omega) k (by omega), Option.bind_some, if_pos h]
      exact e1
    · simp only [impl_LongestStairs.f, slices_Index_int_int.f, isHouse_eq s d (by omega), Option.bind_some, if_pos h, e3]
      have e4 : slices_Index_int_int.l0 k s (mxl (s.drop 1) (rd s 0)) (s.length : Int) 0 = some (q : Int) := e2
      rw [e4, e]
      rfl
  · refine ⟨(0, 0, false), fun k hk => ?_⟩
    simp only [spec_LongestStairs.f, impl_LongestStairs.f, ldGood_eq s d (by omega) k (by omega), isHouse_eq s d (by omega), Option.bind_some, if_neg h, and_self]
theorem FnExactLongestStairs (l0_0 : List Int) (l0_1 : List Int) (m0_0 : l0_0.length ≤ maxLen) (w0_0 : ∀ x ∈ l0_0, (Lit.int .i64 x).wf = true) (m0_1 : l0_1.length ≤ maxLen) (w0_1 : ∀ x ∈ l0_1, (Lit.int .i64 x).wf = true) : ∃ k, laws_FnExactLongestStairs.f k l0_0 l0_1 = some true := by
  rcases sz_val l0_0 l0_1 m0_0 m0_1 with ⟨hs, hd, n, e, hn⟩ | ⟨n, e, hn⟩
  · obtain ⟨r, h⟩ := val l0_0 l0_1 (by omega) (by omega)
    have main : ∀ m : Nat, 2000001 ≤ m → laws_FnExactLongestStairs.f (m + 1) l0_0 l0_1 = some true := by
      intro m hm
      simp only [laws_FnExactLongestStairs.f, laws_FnExactLongestStairs.j0, e, Option.bind_some, if_neg hn, toHouse_val l0_0 l0_1 hs hd (m + 1) (by omega), toHouse_val l0_0 l0_1 hs hd m (by omega), (h (m + 1) (by omega)).1, (h (m + 1) (by omega)).2, eqHouse_val l0_0 l0_1 hs hd m (by omega)]
      simp
    exact ⟨2000001 + 1, main 2000001 (Nat.le_refl _)⟩
  · exact ⟨0, by simp only [laws_FnExactLongestStairs.f, e, Option.bind_some, if_pos hn]⟩

end Go.Proofs.Ytccmgoojdieloaa.Pure
