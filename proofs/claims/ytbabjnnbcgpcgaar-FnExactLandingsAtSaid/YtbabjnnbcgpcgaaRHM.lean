/- Plain lemmas on the functions of houses: what the printed functions of the program and of the reference tell, at every list that they are asked at here. No further condition. -/
import Derived.Test.YtbabjnnbcgpcgaaRHx21
import Derived.Test.YtbabjnnbcgpcgaaRHx22
import Derived.Test.YtbabjnnbcgpcgaaRHx23
import Derived.Test.YtbabjnnbcgpcgaaRHB
namespace Go.Proofs.YtbabjnnbcgpcgaaR.Pure
open Go.RowKit Go.Proofs.YtbabjnnbcgpcgaaR.H Go.Proofs.YtbabjnnbcgpcgaaRW.PrintWords Go.Proofs.YtbabjnnbcgpcgaaRW.PrintLast Go.Proofs.YtbabjnnbcgpcgaaRW.PrintMore
set_option linter.unusedVariables false
set_option linter.unusedSimpArgs false

def markL : List Int → Int → List Int
  | [], _ => []
  | _ :: t, c => c :: markL t (c + 1)
theorem markL_length (l : List Int) : ∀ c, (markL l c).length = l.length := by
  induction l with
  | nil => intro c; rfl
  | cons x t ih => intro c; simp only [markL, List.length_cons, ih]
theorem mark_l (l : List Int) : ∀ (k : Nat) (pre : List Int) (c : Int), 0 ≤ c → c + l.length ≤ 100000000 → pre.length + l.length ≤ 100000000 → l.length < k → laws_markIntS.l0 k (pre ++ l) c (pre.length : Int) = some (c + l.length, pre ++ markL l c) := by
  induction l with
  | nil =>
    intro k pre c h0 h1 h2 hk
    obtain ⟨k, rfl⟩ : ∃ m, k = m + 1 := ⟨k - 1, by omega⟩
    simp only [laws_markIntS.l0, markL, List.append_nil]
    rw [if_neg (by omega)]
    simp
  | cons x t ih =>
    intro k pre c h0 h1 h2 hk
    simp only [List.length_cons] at h1 h2 hk
    obtain ⟨k, rfl⟩ : ∃ m, k = m + 1 := ⟨k - 1, by omega⟩
    have ew : wrap64 ((pre.length : Int) + 1) = ((pre.length + 1 : Nat) : Int) := by rw [wr (by omega) (by omega)]; omega
    have ec : wrap64 (c + 1) = c + 1 := wr (by omega) (by omega)
    have es : (pre ++ x :: t).set ((pre.length : Int)).toNat c = (pre ++ [c]) ++ t := by
      rw [Int.toNat_natCast, List.set_append_right _ _ (Nat.le_refl _), Nat.sub_self]
      simp
    have el : (pre ++ [c]).length = pre.length + 1 := by simp
    have := ih k (pre ++ [c]) (c + 1) (by omega) (by omega) (by omega) (by omega)
    rw [el] at this
    simp only [laws_markIntS.l0, ew, ec, es]
    rw [if_pos (by simp only [List.length_append, List.length_cons]; omega), if_pos (by omega), this]
    simp only [markL, List.length_cons, List.append_assoc, List.singleton_append]
    congr 2
    omega
theorem mark_val (l : List Int) (c : Int) (h0 : 0 ≤ c) (hc : c ≤ 20000000) (hl : l.length ≤ 2000000) (k : Nat) (hk : 2000000 < k) : laws_markIntS.f k l c = some (c + (l.length : Int), markL l c) := by
  have := mark_l l k [] c h0 (by omega) (by simp; omega) (by omega)
  simpa [laws_markIntS.f] using this
theorem held_l (l : List Int) : ∀ (k : Nat) (pre : List Int) (c : Int), 0 ≤ c → c + l.length ≤ 100000000 → pre.length + l.length ≤ 100000000 → l.length < k → laws_heldIntS.l0 k (pre ++ markL l c) c (pre.length : Int) = some (c + l.length) := by
  induction l with
  | nil =>
    intro k pre c h0 h1 h2 hk
    obtain ⟨k, rfl⟩ : ∃ m, k = m + 1 := ⟨k - 1, by omega⟩
    simp only [laws_heldIntS.l0, markL, List.append_nil]
    rw [if_neg (by omega)]
    simp
  | cons x t ih =>
    intro k pre c h0 h1 h2 hk
    simp only [List.length_cons] at h1 h2 hk
    obtain ⟨k, rfl⟩ : ∃ m, k = m + 1 := ⟨k - 1, by omega⟩
    have ew : wrap64 ((pre.length : Int) + 1) = ((pre.length + 1 : Nat) : Int) := by rw [wr (by omega) (by omega)]; omega
    have ec : wrap64 (c + 1) = c + 1 := wr (by omega) (by omega)
    have el : (pre ++ [c]).length = pre.length + 1 := by simp
    have er : rd (pre ++ markL (x :: t) c) (pre.length : Int) = c := by simp [rd, List.getD, markL]
    have := ih k (pre ++ [c]) (c + 1) (by omega) (by omega) (by omega) (by omega)
    rw [el, List.append_assoc, List.singleton_append] at this
    simp only [laws_heldIntS.l0, ew, ec, er]
    rw [if_pos (by simp only [List.length_append, markL_length, List.length_cons]; omega), if_pos (by omega), if_pos trivial]
    simp only [markL]
    rw [this]
    simp only [List.length_cons]
    congr 1
    omega
theorem held_val (l : List Int) (c : Int) (h0 : 0 ≤ c) (hc : c ≤ 20000000) (hl : l.length ≤ 2000000) (k : Nat) (hk : 2000000 < k) : laws_heldIntS.f k (markL l c) c = some (c + (l.length : Int)) := by
  have := held_l l k [] c h0 (by omega) (by simp; omega) (by omega)
  simpa [laws_heldIntS.f] using this
theorem markHouse_val (s d : List Int) (hs : s.length ≤ 1048576) (hd : d.length ≤ 1048576) (k : Nat) (hk : 2000000 < k) : laws_markHouse.f k s d 1 = some (1 + (s.length : Int) + (d.length : Int), markL s 1, markL d (1 + (s.length : Int))) := by
  simp only [laws_markHouse.f, mark_val s 1 (by omega) (by omega) (by omega) k hk, mark_val d (1 + (s.length : Int)) (by omega) (by omega) (by omega) k hk, Option.bind_some]

end Go.Proofs.YtbabjnnbcgpcgaaR.Pure
