/- The plain law of FnExactMiddleFloor: what the reference's function tells, the program's function tells, for every input. No further condition. -/
import Derived.Test.YtbabjnnbcgpcgaaRHx34
import Derived.Test.YtbabjnnbcgpcgaaRHB
import Derived.Test.YtbabjnnbcgpcgaaRHS
import Derived.Test.YtbabjnnbcgpcgaaRHW
namespace Go.Proofs.YtbabjnnbcgpcgaaR.Pure
open Go.RowKit Go.Proofs.YtbabjnnbcgpcgaaR.H Go.Proofs.YtbabjnnbcgpcgaaRW.PrintWords Go.Proofs.YtbabjnnbcgpcgaaRW.PrintLast
set_option linter.unusedVariables false
set_option linter.unusedSimpArgs false

theorem most_eq (a b : Int) : spec_l1Most.f a b = some (mx a b) := by
  unfold spec_l1Most.f mx
  split <;> congr 1 <;> (try split) <;> omega
theorem ldBetween_val (s d : List Int) (h : hsB s d = true) (a b : Int) (ha : 0 ≤ a ∧ a ≤ (s.length : Int)) (hb : 0 ≤ b ∧ b ≤ (s.length : Int)) (k : Nat) (hk : 21 ≤ k) :
    spec_ldBetween.f k s d a b = some (isum (s.take (mx a b).toNat) - isum (s.take (mn a b).toNat)) := by
  have g := (between_val s d h a b ha hb k hk).2
  have b1 := ((small_s h).take a.toNat).bd
  have b2 := ((small_s h).take b.toNat).bd
  simp only [spec_ldBetween.f, spec_l1Abs.f, ldTo_val s d h a ha k hk, ldTo_val s d h b hb k hk, most_eq, Option.bind_some]
  rw [wr (x := isum (s.take a.toNat) - isum (s.take b.toNat)) (by omega) (by omega), wr (x := -(isum (s.take a.toNat) - isum (s.take b.toNat))) (by omega) (by omega)]
  congr 1
  by_cases c : a < b
  · have e1 : mx a b = b := by unfold mx; rw [if_pos c]
    have e2 : mn a b = a := by unfold mn; rw [if_neg (by omega)]
    rw [e1, e2] at g ⊢
    unfold mx
    split <;> omega
  · have e1 : mx a b = a := by unfold mx; rw [if_neg c]
    have e2 : mn a b = b := by
      unfold mn
      split
      · rfl
      · omega
    rw [e1, e2] at g ⊢
    unfold mx
    split <;> omega
theorem wi (i : Nat) (h : i ≤ 1000) : wrap64 ((i : Int) + 1) = ((i + 1 : Nat) : Int) := by
  rw [wr (by omega) (by omega)]
  omega
/-- The way between floors. -/
def ds (s : List Int) (a b : Int) : Int := isum (s.take (mx a b).toNat) - isum (s.take (mn a b).toNat)
def pos (s : List Int) (a : Int) : Int := isum (s.take a.toNat)
theorem ds_bd {s d : List Int} (h : hsB s d = true) (a b : Int) (ha : 0 ≤ a ∧ a ≤ (s.length : Int)) (hb : 0 ≤ b ∧ b ≤ (s.length : Int)) : 0 ≤ ds s a b ∧ ds s a b ≤ 800 := by
  have g := (between_val s d h a b ha hb 21 (Nat.le_refl _)).2
  have b1 := ((small_s h).take (mx a b).toNat).bd
  have b2 := ((small_s h).take (mn a b).toNat).bd
  unfold ds
  omega
theorem pos_bd {s d : List Int} (h : hsB s d = true) (a : Int) : 0 ≤ pos s a ∧ pos s a ≤ 800 := ((small_s h).take a.toNat).bd
theorem ds_zero (s : List Int) (a : Int) (ha : 0 ≤ a) : ds s a 0 = pos s a := by
  have e1 : mx a 0 = a := by unfold mx; split <;> omega
  have e2 : mn a 0 = 0 := by unfold mn; split <;> omega
  unfold ds pos
  rw [e1, e2]
  simp [isum]
theorem ds_up (s : List Int) (a b : Int) (h : a ≤ b) : ds s a b = pos s b - pos s a := by
  have e1 : mx a b = b := by unfold mx; split <;> omega
  have e2 : mn a b = a := by unfold mn; split <;> omega
  unfold ds pos
  rw [e1, e2]
theorem ds_symm (s : List Int) (a b : Int) : ds s a b = ds s b a := by
  have e1 : mx a b = mx b a := by unfold mx; split <;> split <;> omega
  have e2 : mn a b = mn b a := by unfold mn; split <;> split <;> omega
  unfold ds
  rw [e1, e2]
/-- The better one of a floor and of the best one before it. -/
def stp (S f : Int) (p : Int × Int) : Int × Int := if p.2 < 0 then (f, S) else if S < p.2 then (f, S) else p
/-- The first best floor. -/
def mt (S : Nat → Int) : Nat → Nat → Int × Int → Int × Int
  | 0, _, p => p
  | m + 1, f, p => mt S m (f + 1) (stp (S f) f p)
theorem mt_congr (S T : Nat → Int) (m : Nat) : ∀ f p, (∀ i, f ≤ i → i < f + m → S i = T i) → mt S m f p = mt T m f p := by
  induction m with
  | zero => intro f p _; rfl
  | succ m ih =>
    intro f p h
    simp only [mt]
    rw [h f (by omega) (by omega), ih (f + 1) _ (fun i h1 h2 => h i (by omega) (by omega))]
def sumD (s : List Int) : List Int → Int → Int
  | [], _ => 0
  | x :: t, f => ds s x f + sumD s t f
theorem impl_in (s d : List Int) (h : hsB s d = true) (F : List Int) (hl : F.length ≤ 20) (hx : ∀ x ∈ F, 0 ≤ x ∧ x ≤ (s.length : Int)) (b le n : Int) (f : Nat) (hf : f ≤ s.length) (m : Nat) : ∀ (k i : Nat) (sum : Int), i + m = F.length → m + 30 < k → 0 ≤ sum → sum ≤ 800 * i →
    ∃ k', k ≤ k' + m + 1 ∧ impl_House_meet.l1 k F b le (f : Int) sum n (f : Int) F (F.length : Int) (i : Int) s d = impl_House_meet.l0 k' F (stp (sum + sumD s (F.drop i) f) f (b, le)).1 (stp (sum + sumD s (F.drop i) f) f (b, le)).2 n (wrap64 ((f : Int) + 1)) s d := by
  induction m with
  | zero =>
    intro k i sum hd hk h0 h1
    obtain ⟨k, rfl⟩ : ∃ m, k = m + 1 := ⟨k - 1, by omega⟩
    refine ⟨k, by omega, ?_⟩
    simp only [impl_House_meet.l1]
    rw [if_neg (by omega), List.drop_of_length_le (by omega)]
    simp only [sumD, stp, Int.add_zero]
    by_cases c : le < 0
    · rw [if_pos c, if_pos c]
    · rw [if_neg c, if_neg c]
      split <;> rfl
  | succ m ih =>
    intro k i sum hd hk h0 h1
    obtain ⟨k, rfl⟩ : ∃ m, k = m + 1 := ⟨k - 1, by omega⟩
    have hi : i < F.length := by omega
    have hxi := hx F[i] (List.getElem_mem hi)
    have hff : (0 : Int) ≤ (f : Int) ∧ (f : Int) ≤ (s.length : Int) := ⟨by omega, by omega⟩
    have bd := ds_bd h F[i] (f : Int) hxi hff
    have e : impl_House_between.f k s d F[i] (f : Int) = some (ds s F[i] f) := (between_val s d h F[i] f hxi hff k (by omega)).1
    simp only [impl_House_meet.l1, rd_nat F i hi, e, Option.bind_some, wi i (show i ≤ 1000 by omega), wr (x := sum + ds s F[i] f) (by omega) (by omega)]
    rw [if_pos (by omega), if_pos (by omega), if_pos (by omega)]
    obtain ⟨k', hk', e2⟩ := ih k (i + 1) (sum + ds s F[i] f) (by omega) (by omega) (by omega) (by omega)
    refine ⟨k', by omega, ?_⟩
    rw [e2, List.drop_eq_getElem_cons hi]
    simp only [sumD, Int.add_assoc]
theorem impl_out (s d : List Int) (h : hsB s d = true) (F : List Int) (hl : F.length ≤ 20) (hx : ∀ x ∈ F, 0 ≤ x ∧ x ≤ (s.length : Int)) (m : Nat) : ∀ (k f : Nat) (b le : Int), f + m = d.length → 100 * m + 50 < k →
    impl_House_meet.l0 k F b le (d.length : Int) (f : Int) s d = some (mt (fun f => sumD s F f) m f (b, le)) := by
  have fc := hsB_facts h
  induction m with
  | zero =>
    intro k f b le hd hk
    obtain ⟨k, rfl⟩ : ∃ m, k = m + 1 := ⟨k - 1, by omega⟩
    simp only [impl_House_meet.l0]
    rw [if_neg (by omega)]
    rfl
  | succ m ih =>
    intro k f b le hd hk
    obtain ⟨k, rfl⟩ : ∃ m, k = m + 1 := ⟨k - 1, by omega⟩
    simp only [impl_House_meet.l0]
    rw [if_pos (by omega)]
    obtain ⟨k', hk', e⟩ := impl_in s d h F hl hx b le (d.length : Int) f (by omega) F.length k 0 0 (by omega) (by omega) (by omega) (by omega)
    rw [Int.natCast_zero] at e
    rw [e, wi f (by omega), List.drop_zero, ih k' (f + 1) _ _ (by omega) (by omega)]
    simp only [mt, Int.zero_add]
theorem meet_val (s d : List Int) (h : hsB s d = true) (F : List Int) (hl : F.length ≤ 20) (hx : ∀ x ∈ F, 0 ≤ x ∧ x ≤ (s.length : Int)) (k : Nat) (hk : 1000000 < k) : impl_House_meet.f k s d F = some (mt (fun f => sumD s F f) d.length 0 (0, -1)) := by
  have fc := hsB_facts h
  have := impl_out s d h F hl hx d.length k 0 0 (-1) (by omega) (by omega)
  simpa [impl_House_meet.f] using this
/-- What all walk, told by how many are at each floor. -/
def dotc : List Int → (Nat → Int) → Nat → Int
  | [], _, _ => 0
  | x :: t, D, i => x * D i + dotc t D (i + 1)
theorem dot_set (D : Nat → Int) : ∀ (c : List Int) (q i : Nat), q < c.length → dotc (c.set q (c.getD q 0 + 1)) D i = dotc c D i + D (i + q)
  | [], q, i, h => by simp at h
  | x :: t, 0, i, _ => by
    have e : (x + 1) * D i = x * D i + D i := by rw [Int.add_mul, Int.one_mul]
    have g : (x :: t).getD 0 0 = x := rfl
    rw [g]
    simp only [List.set_cons_zero, dotc, e, Nat.add_zero]
    omega
  | x :: t, q + 1, i, h => by
    have hq : q < t.length := by simpa using h
    have g : (x :: t).getD (q + 1) 0 = t.getD q 0 := rfl
    rw [g]
    simp only [List.set_cons_succ, dotc, dot_set D t q (i + 1) hq, Nat.add_right_comm i 1 q, Nat.add_assoc]
    omega
theorem dot_zero (D : Nat → Int) (n : Nat) : ∀ i, dotc (List.replicate n 0) D i = 0 := by
  induction n with
  | zero => intro i; rfl
  | succ n ih =>
    intro i
    simp only [List.replicate_succ, dotc, ih, Int.zero_mul]
    rfl
theorem spec_in (s d : List Int) (h : hsB s d = true) (c : List Int) (hl : c.length = d.length) (hx : ∀ x ∈ c, 0 ≤ x ∧ x ≤ 20) (b le n : Int) (f : Nat) (hf : f ≤ s.length) (m : Nat) : ∀ (k i : Nat) (sum : Int), i + m = c.length → m + 30 < k → 0 ≤ sum → sum ≤ 16000 * i →
    ∃ k', k ≤ k' + m + 1 ∧ spec_ldMeet.l1 k c b le (f : Int) sum n (f : Int) c (c.length : Int) (i : Int) s d = spec_ldMeet.l0 k' c (stp (sum + dotc (c.drop i) (fun j => ds s f j) i) f (b, le)).1 (stp (sum + dotc (c.drop i) (fun j => ds s f j) i) f (b, le)).2 n (wrap64 ((f : Int) + 1)) s d := by
  have fc := hsB_facts h
  induction m with
  | zero =>
    intro k i sum hd hk h0 h1
    obtain ⟨k, rfl⟩ : ∃ m, k = m + 1 := ⟨k - 1, by omega⟩
    refine ⟨k, by omega, ?_⟩
    simp only [spec_ldMeet.l1]
    rw [if_neg (by omega), List.drop_of_length_le (by omega)]
    simp only [dotc, stp, Int.add_zero]
    by_cases z : le < 0
    · rw [if_pos z, if_pos z]
    · rw [if_neg z, if_neg z]
      split <;> rfl
  | succ m ih =>
    intro k i sum hd hk h0 h1
    obtain ⟨k, rfl⟩ : ∃ m, k = m + 1 := ⟨k - 1, by omega⟩
    have hi : i < c.length := by omega
    have hxi := hx c[i] (List.getElem_mem hi)
    have hff : (0 : Int) ≤ (f : Int) ∧ (f : Int) ≤ (s.length : Int) := ⟨by omega, by omega⟩
    have hii : (0 : Int) ≤ (i : Int) ∧ (i : Int) ≤ (s.length : Int) := ⟨by omega, by omega⟩
    have bd := ds_bd h (f : Int) (i : Int) hff hii
    have p0 : 0 ≤ c[i] * ds s f i := Int.mul_nonneg hxi.1 bd.1
    have p1 : c[i] * ds s f i ≤ 20 * 800 := Int.mul_le_mul hxi.2 bd.2 bd.1 (by omega)
    have e : spec_ldBetween.f k s d (f : Int) (i : Int) = some (ds s f i) := ldBetween_val s d h f i hff hii k (by omega)
    simp only [spec_ldMeet.l1, rd_nat c i hi, e, Option.bind_some, wi i (show i ≤ 1000 by omega)]
    generalize hp : c[i] * ds s f i = p at p0 p1
    rw [if_pos (by omega), if_pos (by omega), if_pos (by omega), wr (x := p) (by omega) (by omega), wr (x := sum + p) (by omega) (by omega)]
    obtain ⟨k', hk', e2⟩ := ih k (i + 1) (sum + p) (by omega) (by omega) (by omega) (by omega)
    refine ⟨k', by omega, ?_⟩
    rw [e2, List.drop_eq_getElem_cons hi]
    simp only [dotc, hp, Int.add_assoc]
theorem spec_out (s d : List Int) (h : hsB s d = true) (c : List Int) (hl : c.length = d.length) (hx : ∀ x ∈ c, 0 ≤ x ∧ x ≤ 20) (m : Nat) : ∀ (k f : Nat) (b le : Int), f + m = d.length → 100 * m + 50 < k →
    spec_ldMeet.l0 k c b le (d.length : Int) (f : Int) s d = some (mt (fun f => dotc c (fun j => ds s f j) 0) m f (b, le)) := by
  have fc := hsB_facts h
  induction m with
  | zero =>
    intro k f b le hd hk
    obtain ⟨k, rfl⟩ : ∃ m, k = m + 1 := ⟨k - 1, by omega⟩
    simp only [spec_ldMeet.l0]
    rw [if_neg (by omega)]
    rfl
  | succ m ih =>
    intro k f b le hd hk
    obtain ⟨k, rfl⟩ : ∃ m, k = m + 1 := ⟨k - 1, by omega⟩
    simp only [spec_ldMeet.l0]
    rw [if_pos (by omega)]
    obtain ⟨k', hk', e⟩ := spec_in s d h c hl hx b le (d.length : Int) f (by omega) c.length k 0 0 (by omega) (by omega) (by omega) (by omega)
    rw [Int.natCast_zero] at e
    rw [e, wi f (by omega), List.drop_zero, ih k' (f + 1) _ _ (by omega) (by omega)]
    simp only [mt, Int.zero_add]
theorem ldMeet_val (s d : List Int) (h : hsB s d = true) (c : List Int) (hl : c.length = d.length) (hx : ∀ x ∈ c, 0 ≤ x ∧ x ≤ 20) (k : Nat) (hk : 1000000 < k) : spec_ldMeet.f k s d c = some (mt (fun f => dotc c (fun j => ds s f j) 0) d.length 0 (0, -1)) := by
  have fc := hsB_facts h
  have := spec_out s d h c hl hx d.length k 0 0 (-1) (by omega) (by omega)
  simpa [spec_ldMeet.f] using this
def upL : Nat → Nat → List Int
  | 0, _ => []
  | m + 1, i => (i : Int) :: upL m (i + 1)
theorem upL_length (m : Nat) : ∀ i, (upL m i).length = m := by
  induction m with
  | zero => intro i; rfl
  | succ m ih => intro i; simp only [upL, List.length_cons, ih]
theorem upL_mem (m : Nat) : ∀ i, ∀ x ∈ upL m i, (i : Int) ≤ x ∧ x < (i : Int) + m := by
  induction m with
  | zero => intro i x hx; simp [upL] at hx
  | succ m ih =>
    intro i x hx
    simp only [upL] at hx
    rcases List.mem_cons.mp hx with e | e
    · subst e; omega
    · have := ih (i + 1) x e
      omega
theorem dot_ones (s : List Int) (f : Nat) (m : Nat) : ∀ i, dotc (List.replicate m 1) (fun j => ds s f j) i = sumD s (upL m i) f := by
  induction m with
  | zero => intro i; rfl
  | succ m ih =>
    intro i
    simp only [List.replicate_succ, dotc, upL, sumD, ih, Int.one_mul]
    rw [ds_symm s f i]
theorem impl_m (s d : List Int) (h : hsB s d = true) (m : Nat) : ∀ (k i : Nat) (acc : List Int), i + m = d.length → m + 1000100 < k → acc.length = i → (∀ x ∈ acc, 0 ≤ x ∧ x ≤ (s.length : Int)) →
    impl_MiddleFloor.l0 k acc (d.length : Int) (i : Int) s d = some ((mt (fun f => sumD s (acc ++ upL m i) f) d.length 0 (0, -1)).1, (mt (fun f => sumD s (acc ++ upL m i) f) d.length 0 (0, -1)).2, true) := by
  have fc := hsB_facts h
  induction m with
  | zero =>
    intro k i acc hd hk ha hx
    obtain ⟨k, rfl⟩ : ∃ m, k = m + 1 := ⟨k - 1, by omega⟩
    simp only [impl_MiddleFloor.l0, meet_val s d h acc (by omega) hx k (by omega), Option.bind_some, upL, List.append_nil]
    rw [if_neg (by omega)]
  | succ m ih =>
    intro k i acc hd hk ha hx
    obtain ⟨k, rfl⟩ : ∃ m, k = m + 1 := ⟨k - 1, by omega⟩
    simp only [impl_MiddleFloor.l0, wi i (show i ≤ 1000 by omega)]
    rw [if_pos (by omega), if_pos (by omega), ih k (i + 1) (acc ++ [(i : Int)]) (by omega) (by omega) (by simp only [List.length_append, List.length_singleton]; omega) (fun x hm => by
      rcases List.mem_append.mp hm with z | z
      · exact hx x z
      · rw [List.mem_singleton] at z
        omega)]
    simp only [upL, List.append_assoc, List.singleton_append]
theorem spec_m (s d : List Int) (h : hsB s d = true) (m : Nat) : ∀ (k i : Nat), i + m = d.length → m + 1000100 < k →
    spec_MiddleFloor.l0 k (List.replicate i 1 ++ List.replicate m 0) (d.length : Int) (i : Int) s d = some ((mt (fun f => dotc (List.replicate d.length 1) (fun j => ds s f j) 0) d.length 0 (0, -1)).1, (mt (fun f => dotc (List.replicate d.length 1) (fun j => ds s f j) 0) d.length 0 (0, -1)).2, true) := by
  have fc := hsB_facts h
  induction m with
  | zero =>
    intro k i hd hk
    obtain ⟨k, rfl⟩ : ∃ m, k = m + 1 := ⟨k - 1, by omega⟩
    obtain rfl : i = d.length := by omega
    have e := ldMeet_val s d h (List.replicate d.length 1) (by simp) (fun x hm => by have := List.eq_of_mem_replicate hm; omega) k (by omega)
    simp only [spec_MiddleFloor.l0, List.replicate_zero, List.append_nil, e, Option.bind_some]
    rw [if_neg (by omega)]
  | succ m ih =>
    intro k i hd hk
    obtain ⟨k, rfl⟩ : ∃ m, k = m + 1 := ⟨k - 1, by omega⟩
    have es : (List.replicate i (1 : Int) ++ List.replicate (m + 1) 0).set ((i : Int)).toNat 1 = List.replicate (i + 1) 1 ++ List.replicate m 0 := by
      rw [Int.toNat_natCast, List.set_append_right _ _ (by simp), List.length_replicate, Nat.sub_self, List.replicate_succ, List.set_cons_zero, List.replicate_succ', List.append_assoc, List.singleton_append]
    simp only [spec_MiddleFloor.l0, wi i (show i ≤ 1000 by omega), es]
    rw [if_pos (by omega), if_pos (by omega), if_pos (by simp only [List.length_append, List.length_replicate]; omega), ih k (i + 1) (by omega) (by omega)]
theorem val (s d : List Int) (hs : s.length ≤ 1048576) (hd : d.length ≤ 1048576) : ∃ r, ∀ k, 2000000 < k → spec_MiddleFloor.f k s d = some r ∧ impl_MiddleFloor.f k s d = some r := by
  by_cases h : hsB s d = true
  · have f := hsB_facts h
    refine ⟨((mt (fun f => sumD s (upL d.length 0) f) d.length 0 (0, -1)).1, (mt (fun f => sumD s (upL d.length 0) f) d.length 0 (0, -1)).2, true), fun k hk => ?_⟩
    constructor
    · have e := spec_m s d h d.length k 0 (by omega) (by omega)
      have eq : mt (fun f => dotc (List.replicate d.length 1) (fun j => ds s f j) 0) d.length 0 (0, -1) = mt (fun f => sumD s (upL d.length 0) f) d.length 0 (0, -1) :=
        mt_congr _ _ _ _ _ fun i _ _ => dot_ones s i d.length 0
      rw [eq] at e
      rw [Int.natCast_zero, List.replicate_zero, List.nil_append] at e
      simp only [spec_MiddleFloor.f, ldGood_eq s d (by omega) k (by omega), Option.bind_some, if_pos h, Int.toNat_natCast, List.length_replicate]
      rw [if_pos (by omega), if_pos (by omega), e]
    · have e := impl_m s d h d.length k 0 [] (by omega) (by omega) rfl (by simp)
      rw [Int.natCast_zero, List.nil_append] at e
      simp only [impl_MiddleFloor.f, isHouse_eq s d (by omega), Option.bind_some, if_pos h, e]
  · refine ⟨(0, 0, false), fun k hk => ?_⟩
    simp only [spec_MiddleFloor.f, impl_MiddleFloor.f, ldGood_eq s d (by omega) k (by omega), isHouse_eq s d (by omega), Option.bind_some, if_neg h]
    exact ⟨trivial, trivial⟩
theorem FnExactMiddleFloor (l0_0 : List Int) (l0_1 : List Int) (m0_0 : l0_0.length ≤ maxLen) (w0_0 : ∀ x ∈ l0_0, (Lit.int .i64 x).wf = true) (m0_1 : l0_1.length ≤ maxLen) (w0_1 : ∀ x ∈ l0_1, (Lit.int .i64 x).wf = true) : ∃ k, laws_FnExactMiddleFloor.f k l0_0 l0_1 = some true := by
  rcases sz_val l0_0 l0_1 m0_0 m0_1 with ⟨hs, hd, n, e, hn⟩ | ⟨n, e, hn⟩
  · obtain ⟨r, h⟩ := val l0_0 l0_1 (by omega) (by omega)
    have main : ∀ m : Nat, 2000001 ≤ m → laws_FnExactMiddleFloor.f (m + 1) l0_0 l0_1 = some true := by
      intro m hm
      simp only [laws_FnExactMiddleFloor.f, laws_FnExactMiddleFloor.j0, e, Option.bind_some, if_neg hn, toHouse_val l0_0 l0_1 hs hd (m + 1) (by omega), toHouse_val l0_0 l0_1 hs hd m (by omega), (h (m + 1) (by omega)).1, (h (m + 1) (by omega)).2, eqHouse_val l0_0 l0_1 hs hd m (by omega)]
      simp
    exact ⟨2000001 + 1, main 2000001 (Nat.le_refl _)⟩
  · exact ⟨0, by simp only [laws_FnExactMiddleFloor.f, e, Option.bind_some, if_pos hn]⟩

end Go.Proofs.YtbabjnnbcgpcgaaR.Pure
