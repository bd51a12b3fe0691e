/- The plain law of FnExactWalkToDoors: what the reference's function tells, the program's function tells, for every input. No further condition. -/
import Derived.Test.YtbabjnnbcgpcgaaRHx42
import Derived.Test.YtbabjnnbcgpcgaaRHB
import Derived.Test.YtbabjnnbcgpcgaaRHS
import Derived.Test.YtbabjnnbcgpcgaaRHW
import Derived.Test.YtbabjnnbcgpcgaaRHF
namespace Go.Proofs.YtbabjnnbcgpcgaaR.Pure
open Go.RowKit Go.Proofs.YtbabjnnbcgpcgaaR.H Go.Proofs.YtbabjnnbcgpcgaaRW.PrintWords Go.Proofs.YtbabjnnbcgpcgaaRW.PrintLast
set_option linter.unusedVariables false
set_option linter.unusedSimpArgs false

theorem most_eq (a b : Int) : spec_l1Most.f a b = some (mx a b) := by
  unfold spec_l1Most.f mx
  split <;> congr 1 <;> (try split) <;> omega
theorem ldBetween_val (s d : List Int) (h : hsB s d = true) (a b : Int) (ha : 0 ≤ a ∧ a ≤ (s.length : Int)) (hb : 0 ≤ b ∧ b ≤ (s.length : Int)) (k : Nat) (hk : 21 ≤ k) :
    spec_ldBetween.f k s d a b = some (isum (s.take (mx a b).toNat) - isum (s.take (mn a b).toNat)) := by
  have g := (between_val s d h a b ha hb k hk).2
  have b1 := ((small_s h).take a.toNat).bd
  have b2 := ((small_s h).take b.toNat).bd
  simp only [spec_ldBetween.f, spec_l1Abs.f, ldTo_val s d h a ha k hk, ldTo_val s d h b hb k hk, most_eq, Option.bind_some]
  rw [wr (x := isum (s.take a.toNat) - isum (s.take b.toNat)) (by omega) (by omega), wr (x := -(isum (s.take a.toNat) - isum (s.take b.toNat))) (by omega) (by omega)]
  congr 1
  by_cases c : a < b
  · have e1 : mx a b = b := by unfold mx; rw [if_pos c]
    have e2 : mn a b = a := by unfold mn; rw [if_neg (by omega)]
    rw [e1, e2] at g ⊢
    unfold mx
    split <;> omega
  · have e1 : mx a b = a := by unfold mx; rw [if_neg c]
    have e2 : mn a b = b := by
      unfold mn
      split
      · rfl
      · omega
    rw [e1, e2] at g ⊢
    unfold mx
    split <;> omega
theorem wi (i : Nat) (h : i ≤ 1000) : wrap64 ((i : Int) + 1) = ((i + 1 : Nat) : Int) := by
  rw [wr (by omega) (by omega)]
  omega
/-- The way between floors. -/
def ds (s : List Int) (a b : Int) : Int := isum (s.take (mx a b).toNat) - isum (s.take (mn a b).toNat)
def pos (s : List Int) (a : Int) : Int := isum (s.take a.toNat)
theorem ds_bd {s d : List Int} (h : hsB s d = true) (a b : Int) (ha : 0 ≤ a ∧ a ≤ (s.length : Int)) (hb : 0 ≤ b ∧ b ≤ (s.length : Int)) : 0 ≤ ds s a b ∧ ds s a b ≤ 800 := by
  have g := (between_val s d h a b ha hb 21 (Nat.le_refl _)).2
  have b1 := ((small_s h).take (mx a b).toNat).bd
  have b2 := ((small_s h).take (mn a b).toNat).bd
  unfold ds
  omega
theorem pos_bd {s d : List Int} (h : hsB s d = true) (a : Int) : 0 ≤ pos s a ∧ pos s a ≤ 800 := ((small_s h).take a.toNat).bd
theorem ds_zero (s : List Int) (a : Int) (ha : 0 ≤ a) : ds s a 0 = pos s a := by
  have e1 : mx a 0 = a := by unfold mx; split <;> omega
  have e2 : mn a 0 = 0 := by unfold mn; split <;> omega
  unfold ds pos
  rw [e1, e2]
  simp [isum]
theorem ds_up (s : List Int) (a b : Int) (h : a ≤ b) : ds s a b = pos s b - pos s a := by
  have e1 : mx a b = b := by unfold mx; split <;> omega
  have e2 : mn a b = a := by unfold mn; split <;> omega
  unfold ds pos
  rw [e1, e2]
/-- What is walked from a floor to floors and back to the ground. -/
def wk (s : List Int) : List Int → Int → Int → Int
  | [], n, at_ => n + pos s at_
  | f :: t, n, at_ => wk s t (n + ds s at_ f) f
theorem spec_walk (s d : List Int) (h : hsB s d = true) (l : List Int) (hl : l.length ≤ 20) (hx : ∀ x ∈ l, 1 ≤ x ∧ x ≤ isum d) (m : Nat) : ∀ (k i : Nat) (n at_ : Int), i + m = l.length → m + 30 < k → 0 ≤ n → n ≤ 800 * i → 0 ≤ at_ ∧ at_ ≤ (s.length : Int) →
    spec_ldWalk.l0 k n at_ l (l.length : Int) (i : Int) s d = some (wk s ((l.drop i).map (FL d)) n at_) := by
  induction m with
  | zero =>
    intro k i n at_ hd hk h0 h1 ha
    obtain ⟨k, rfl⟩ : ∃ m, k = m + 1 := ⟨k - 1, by omega⟩
    have b := pos_bd h at_
    simp only [spec_ldWalk.l0, ldTo_val s d h at_ ha k (by omega), Option.bind_some]
    rw [if_neg (by omega), List.drop_of_length_le (by omega)]
    simp only [List.map_nil, wk]
    rw [show isum (s.take at_.toNat) = pos s at_ from rfl, wr (by omega) (by omega)]
  | succ m ih =>
    intro k i n at_ hd hk h0 h1 ha
    obtain ⟨k, rfl⟩ : ∃ m, k = m + 1 := ⟨k - 1, by omega⟩
    have hi : i < l.length := by omega
    have hxi := hx l[i] (List.getElem_mem hi)
    have hf := FL_bd h l[i] hxi
    have b := ds_bd h at_ (FL d l[i]) ha hf
    have e1 : spec_ldOf.f k s d l[i] = some (FL d l[i]) := by rw [ldOf_eq, floorOf_val s d (small_d h) l[i] hxi k (by omega)]; rfl
    have e2 : spec_ldBetween.f k s d at_ (FL d l[i]) = some (ds s at_ (FL d l[i])) := ldBetween_val s d h at_ (FL d l[i]) ha hf k (by omega)
    simp only [spec_ldWalk.l0, wi i (show i ≤ 1000 by omega), rd_nat l i hi, e1, e2, wr (x := n + ds s at_ (FL d l[i])) (by omega) (by omega), Option.bind_some]
    rw [if_pos (by omega), if_pos (by omega), if_pos (by omega), ih k (i + 1) _ _ (by omega) (by omega) (by omega) (by omega) hf, List.drop_eq_getElem_cons hi]
    rfl
theorem ldWalk_val (s d l : List Int) (h : hsB s d = true) (hl : l.length ≤ 20) (hx : ∀ x ∈ l, 1 ≤ x ∧ x ≤ isum d) (k : Nat) (hk : 2000000 < k) : spec_ldWalk.f k s d l = some (wk s (l.map (FL d)) 0 0) := by
  have := spec_walk s d h l hl hx l.length k 0 0 0 (by omega) (by omega) (by omega) (by omega) ⟨by omega, by omega⟩
  simpa [spec_ldWalk.f] using this
theorem impl_walk (s d : List Int) (h : hsB s d = true) (F : List Int) (hl : F.length ≤ 20) (hx : ∀ x ∈ F, 0 ≤ x ∧ x ≤ (s.length : Int)) (m : Nat) : ∀ (k i : Nat) (n at_ : Int), i + m = F.length → m + 30 < k → 0 ≤ n → n ≤ 800 * i → 0 ≤ at_ ∧ at_ ≤ (s.length : Int) →
    impl_WalkToDoors.l0 k n at_ (F ++ [0]) ((F ++ [0]).length : Int) (i : Int) s d = some (wk s (F.drop i) n at_, true) := by
  have hlen : (F ++ [0]).length = F.length + 1 := by simp
  induction m with
  | zero =>
    intro k i n at_ hd hk h0 h1 ha
    obtain ⟨k, rfl⟩ : ∃ m, k = m + 2 := ⟨k - 2, by omega⟩
    obtain rfl : i = F.length := by omega
    have er : rd (F ++ [0]) (F.length : Int) = 0 := by simp [rd, List.getD]
    have hz : (0 : Int) ≤ 0 ∧ (0 : Int) ≤ (s.length : Int) := ⟨by omega, by omega⟩
    have b := ds_bd h at_ 0 ha hz
    have e : impl_House_between.f (k + 1) s d at_ 0 = some (ds s at_ 0) := (between_val s d h at_ 0 ha hz (k + 1) (by omega)).1
    have ew : wrap64 ((F.length : Int) + 1) = (F.length : Int) + 1 := wr (by omega) (by omega)
    simp only [impl_WalkToDoors.l0, er, e, ew, Option.bind_some, hlen]
    rw [if_pos (by omega), if_pos (by omega), if_pos (by omega), if_neg (by omega), List.drop_of_length_le (Nat.le_refl _), wr (by omega) (by omega), ds_zero s at_ ha.1]
    rfl
  | succ m ih =>
    intro k i n at_ hd hk h0 h1 ha
    obtain ⟨k, rfl⟩ : ∃ m, k = m + 1 := ⟨k - 1, by omega⟩
    have hi : i < F.length := by omega
    have hxi := hx F[i] (List.getElem_mem hi)
    have b := ds_bd h at_ F[i] ha hxi
    have er : rd (F ++ [0]) (i : Int) = F[i] := by simp [rd, List.getD, List.getElem?_append_left hi, hi]
    have e : impl_House_between.f k s d at_ F[i] = some (ds s at_ F[i]) := (between_val s d h at_ F[i] ha hxi k (by omega)).1
    simp only [impl_WalkToDoors.l0, er, e, wi i (show i ≤ 1000 by omega), wr (x := n + ds s at_ F[i]) (by omega) (by omega), Option.bind_some]
    rw [if_pos (by omega), if_pos (by omega), if_pos (by omega), ih k (i + 1) _ _ (by omega) (by omega) (by omega) (by omega) hxi, List.drop_eq_getElem_cons hi]
    rfl
theorem val (s d l : List Int) (hs : s.length ≤ 1048576) (hd : d.length ≤ 1048576) : ∃ r, ∀ k, 2000000 < k → spec_WalkToDoors.f k s d l = some r ∧ impl_WalkToDoors.f k s d l = some r := by
  by_cases h : lsB s d l = true
  · have f := lsB_facts h
    refine ⟨(wk s (l.map (FL d)) 0 0, true), fun k hk => ?_⟩
    have hF : ∀ x ∈ l.map (FL d), 0 ≤ x ∧ x ≤ (s.length : Int) := fun x hx => by
      obtain ⟨y, hy, rfl⟩ := List.mem_map.mp hx
      exact FL_bd f.1 y (f.2.2.2 y hy)
    have e := impl_walk s d f.1 (l.map (FL d)) (by simp; omega) hF (l.map (FL d)).length k 0 0 0 (by omega) (by simp; omega) (by omega) (by omega) ⟨by omega, by omega⟩
    simp only [List.drop_zero] at e
    have e2 : impl_WalkToDoors.l0 k 0 0 (l.map (FL d) ++ [0]) ((l.map (FL d) ++ [0]).length : Int) 0 s d = some (wk s (l.map (FL d)) 0 0, true) := e
    constructor
    · simp only [spec_WalkToDoors.f, ldList_val s d l hd k hk, Option.bind_some, if_pos h, ldWalk_val s d l f.1 f.2.2.1 f.2.2.2 k hk]
    · simp only [impl_WalkToDoors.f, floorsOf_val s d l hd k hk, Option.bind_some, if_pos h, if_true]
      rw [if_pos (by simp; omega), e2]
  · refine ⟨(0, false), fun k hk => ?_⟩
    simp only [spec_WalkToDoors.f, impl_WalkToDoors.f, ldList_val s d l hd k hk, floorsOf_val s d l hd k hk, Option.bind_some, if_neg h, Bool.false_eq_true, if_false]
    exact ⟨trivial, trivial⟩
theorem FnExactWalkToDoors (l0_0 : List Int) (l0_1 : List Int) (l1 : List Int) (m0_0 : l0_0.length ≤ maxLen) (w0_0 : ∀ x ∈ l0_0, (Lit.int .i64 x).wf = true) (m0_1 : l0_1.length ≤ maxLen) (w0_1 : ∀ x ∈ l0_1, (Lit.int .i64 x).wf = true) (m1 : l1.length ≤ maxLen) (y1 : l1.length * 8 ≤ 140737488351232) (w1 : ∀ x ∈ l1, (Lit.int .i64 x).wf = true) : ∃ k, laws_FnExactWalkToDoors.f k l0_0 l0_1 l1 = some true := by
  by_cases hb : l1.length ≤ 1048576
  · rcases sz_val l0_0 l0_1 m0_0 m0_1 with ⟨hs, hd, n, e, hn⟩ | ⟨n, e, hn⟩
    · obtain ⟨r, h⟩ := val l0_0 l0_1 l1 (by omega) (by omega)
      have main : ∀ m : Nat, 2000001 ≤ m → laws_FnExactWalkToDoors.f (m + 1) l0_0 l0_1 l1 = some true := by
        intro m hm
        simp only [laws_FnExactWalkToDoors.f, laws_FnExactWalkToDoors.j0, e, Option.bind_some, if_neg hn, toHouse_val l0_0 l0_1 hs hd (m + 1) (by omega), toHouse_val l0_0 l0_1 hs hd m (by omega), toI_val l1 (by omega) (m + 1) (by omega), toI_val l1 (by omega) m (by omega), eqI_val l1 (by omega) m (by omega), (h (m + 1) (by omega)).1, (h (m + 1) (by omega)).2, eqHouse_val l0_0 l0_1 hs hd m (by omega)]
        rw [if_neg (by omega)]
        simp
      exact ⟨2000001 + 1, main 2000001 (Nat.le_refl _)⟩
    · refine ⟨0, ?_⟩
      simp only [laws_FnExactWalkToDoors.f, e, Option.bind_some, if_pos hn]
      rw [if_neg (by omega)]
  · refine ⟨0, ?_⟩
    simp only [laws_FnExactWalkToDoors.f]
    rw [if_pos (by omega)]

end Go.Proofs.YtbabjnnbcgpcgaaR.Pure
