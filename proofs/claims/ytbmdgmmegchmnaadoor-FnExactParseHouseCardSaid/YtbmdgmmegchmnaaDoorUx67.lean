/- Contracts of the Go functions that the laws reach, each for every input and every memory: written by a program of this session over the kit print, with contracts of its own for what that leaves out. No further condition. -/
import Derived.Test.YtbmdgmmegchmnaaDoorUx0
import Derived.Test.YtbmdgmmegchmnaaDoorUx7
namespace Go.Proofs.YtbmdgmmegchmnaaDoor.U
open Go.RowKit Go.Proofs.YtbmdgmmegchmnaaDoorW.PrintWords Go.Proofs.YtbmdgmmegchmnaaDoorW.PrintLast Go.Proofs.YtbmdgmmegchmnaaDoorW.PrintMore
attribute [local go_sem] max2_int min2_int max_two min_two max_three min_three max_four min_four   -- for this text's walks alone
set_option linter.unusedVariables false
set_option linter.unusedSimpArgs false


/-! ### slices.ContainsFunc at the two functions of impl.IsHouse: the session's own -/
theorem calls_len {P : Program} {f : FuncId} {A : Option Addr} {n m c : Nat} {w : World} {Q : Ending → World → Prop} (h : Calls P f #[.slice A n c] w Q) (e : n = m) : Calls P f #[.slice A m c] w Q := by
  subst e
  exact h
def cf_idx (p : Int → Bool) : List Int → Int → Int
  | [], _ => -1
  | x :: t, i => if p x = true then i else cf_idx p t (i + 1)
theorem cf_any (p : Int → Bool) (l : List Int) : ∀ i : Int, 0 ≤ i → decide (0 ≤ cf_idx p l i) = l.any p := by
  induction l with
  | nil => intro i _; rfl
  | cons x t ih =>
    intro i hi
    simp only [cf_idx, List.any_cons]
    by_cases hq : p x = true
    · simp [hq, hi]
    · simpa [hq] using ih (i + 1) (by omega)
theorem cf_ge (p : Int → Bool) (l : List Int) : decide (cf_idx p l 0 ≥ 0) = l.any p := cf_any p l 0 (Int.le_refl 0)
theorem cf_hit (p : Int → Bool) (l : List Int) (k : Nat) (hk : k < l.length) (h : p (rd l k) = true) : cf_idx p (l.drop k) k = k := by
  have e : rd l (k : Int) = l[k] := by simp [rd, List.getD, hk]
  rw [e] at h
  rw [List.drop_eq_getElem_cons hk]
  simp only [cf_idx]
  rw [if_pos h]
theorem cf_miss (p : Int → Bool) (l : List Int) (k : Nat) (hk : k < l.length) (h : p (rd l k) = false) : cf_idx p (l.drop k) k = cf_idx p (l.drop (k + 1)) ((k + 1 : Nat) : Int) := by
  have e : rd l (k : Int) = l[k] := by simp [rd, List.getD, hk]
  rw [e] at h
  rw [List.drop_eq_getElem_cons hk]
  simp only [cf_idx]
  rw [if_neg (by rw [h]; decide)]
  rfl
set_option maxHeartbeats 8000000 in
set_option maxRecDepth 100000 in
theorem cf_index (g : Nat) (p : Int → Bool) (hp : ∀ (x : Int) (W : World), Calls Tryd.prog g #[.int .i64 x] W fun e w' => e = .returned (.bool (p x)) ∧ Drawn0 W w') (eg : ∀ args w, (callFunc g args).run Tryd.prog w = .ok (.enter g args) w)
    (A0 : Option Addr) (c0 : Nat) (l0 : List Int) (w : World) (hr0 : Kd.C (Kd.int .i64) w A0 l0.length l0) (hm : l0.length ≤ 9223372036854775807) :
    Calls Tryd.prog 161 #[.slice A0 l0.length c0, .func (.func g) #[] #[]] w fun e w' => e = .returned (.int .i64 (cf_idx p l0 0)) ∧ Drawn0 w w' := by
  have HR0 := Aside0.mk hr0
  have HP := Aside0.mk hp
  clear hr0 hp
  go_enter Tryd.func161, Tryd.ntmps161
  go_wp2
  go_loopg [5, 8] l0.length (fun gg _ v8 w' => ∃ (kk : Nat), kk ≤ l0.length ∧ l0.length - kk ≤ gg ∧ v8 = .int .i64 (kk : Int) ∧ Aside0 (cf_idx p (l0.drop kk) kk = cf_idx p l0 0) ∧ Drawn0 w w')
  case atStart => exact ⟨0, Nat.zero_le _, by omega, rfl, ⟨rfl⟩, Drawn0.refl _⟩
  case round =>
    obtain ⟨kk, hk, hg, rfl, R, ⟨m1, rfl⟩⟩ := hrel
    by_cases hlt : kk < l0.length
    · have hltz : (kk : Int) < (l0.length : Int) := by omega
      obtain ⟨ad, e, hx⟩ := Kd.at_int HR0.out (kk : Int) (by omega) hltz
      cases e
      rw [Int.toNat_natCast] at hx
      have H1 := Aside0.mk (fun h => cf_hit p l0 kk hlt h)
      have H2 := Aside0.mk (fun h => cf_miss p l0 kk hlt h)
      generalize hy : rd l0 (kk : Int) = y at hx
      have HY := Aside0.mk hy
      clear hy
      have hcall := fun W => HP.out y W
      cases hq : p y with
      | true =>
        rw [hq] at hcall
        have HQ := Aside0.mk hq
        clear hq
        have hcall2 := Aside0.mk hcall
        clear hcall
        go_wp2_with (go_at_fn g; refine (hcall2.out _).mono ?_; rintro e w' ⟨rfl, ⟨nd, rfl⟩⟩)
        go_ret
        exact ⟨by rw [← R.out, H1.out (by rw [HY.out]; exact HQ.out)]; rfl, by repeat (first | exact Drawn0.refl _ | apply Drawn0.step)⟩
      | false =>
        rw [hq] at hcall
        have HQ := Aside0.mk hq
        clear hq
        have hcall2 := Aside0.mk hcall
        clear hcall
        go_wp2_with (go_at_fn g; refine (hcall2.out _).mono ?_; rintro e w' ⟨rfl, ⟨nd, rfl⟩⟩)
        go_roundg (l0.length - (kk + 1))
        case measure => omega
        case rel => exact ⟨kk + 1, by omega, by omega, by go_num, ⟨by rw [← H2.out (by rw [HY.out]; exact HQ.out)]; exact R.out⟩, by repeat (first | exact Drawn0.refl _ | apply Drawn0.step)⟩
    · have hltz : ¬ (kk : Int) < (l0.length : Int) := by omega
      obtain rfl : kk = l0.length := by omega
      have R2 : cf_idx p l0 0 = -1 := by
        have := R.out
        rw [List.drop_of_length_le (Nat.le_refl _)] at this
        exact this.symm
      have R3 := Aside0.mk R2
      clear R2
      go_wp2
      go_ret
      exact ⟨by rw [R3.out]; rfl, by repeat (first | exact Drawn0.refl _ | apply Drawn0.step)⟩
set_option maxHeartbeats 8000000 in
set_option maxRecDepth 100000 in
theorem cf_contains (g : Nat) (p : Int → Bool) (hp : ∀ (x : Int) (W : World), Calls Tryd.prog g #[.int .i64 x] W fun e w' => e = .returned (.bool (p x)) ∧ Drawn0 W w') (eg : ∀ args w, (callFunc g args).run Tryd.prog w = .ok (.enter g args) w)
    (A0 : Option Addr) (c0 : Nat) (l0 : List Int) (w : World) (hr0 : Kd.C (Kd.int .i64) w A0 l0.length l0) (hm : l0.length ≤ 9223372036854775807) :
    Calls Tryd.prog 143 #[.slice A0 l0.length c0, .func (.func g) #[] #[]] w fun e w' => e = .returned (.bool (l0.any p)) ∧ Drawn0 w w' := by
  have HC := Aside0.mk (fun W h => cf_index g p hp eg A0 c0 l0 W h hm)
  have HG := Aside0.mk (cf_ge p l0)
  have HR0 := Aside0.mk hr0
  clear hr0 hp
  generalize cf_idx p l0 0 = r at HC HG
  go_enter Tryd.func143, Tryd.ntmps143
  go_wp2_with (go_at_call 161; refine (HC.out _ HR0.out).mono ?_; rintro e w' ⟨rfl, ⟨nd, rfl⟩⟩)
  go_ret
  exact ⟨by rw [← HG.out]; rfl, by repeat (first | exact Drawn0.refl _ | apply Drawn0.step)⟩
theorem cf_none (lo hi : Int) (g : Nat) (hg : ∀ (x : Int) (b : Bool) (W : World), impl_within.f x lo hi = some b → Calls Tryd.prog g #[.int .i64 x] W fun e w' => e = .returned (.bool (!b)) ∧ Drawn0 W w') (x : Int) (W : World) :
    Calls Tryd.prog g #[.int .i64 x] W fun e w' => e = .returned (.bool (!decide (lo ≤ x ∧ x ≤ hi))) ∧ Drawn0 W w' := by
  refine hg x _ W ?_
  unfold impl_within.f
  by_cases h : lo ≤ x
  · rw [if_pos h]; simp [h]
  · rw [if_neg h]; simp [h]
set_option maxHeartbeats 8000000 in
theorem cf_walk1 (x : Int) (b : Bool) (W : World) (h : impl_within.f x 1 40 = some b) : Calls Tryd.prog 144 #[.int .i64 x] W fun e w' => e = .returned (.bool (!b)) ∧ Drawn0 W w' := by
  have H := Aside0.mk h
  clear h
  go_enter Tryd.func144, Tryd.ntmps144
  go_wp2_with (go_at_call 129; (with_reducible refine (impl_within.calls x 1 40 b _ H.out).mono ?_); rintro e w' ⟨rfl, ⟨nd, rfl⟩⟩)
  go_ret
  exact ⟨rfl, by repeat (first | exact Drawn0.refl _ | apply Drawn0.step)⟩
set_option maxHeartbeats 8000000 in
theorem cf_walk2 (x : Int) (b : Bool) (W : World) (h : impl_within.f x 0 20 = some b) : Calls Tryd.prog 145 #[.int .i64 x] W fun e w' => e = .returned (.bool (!b)) ∧ Drawn0 W w' := by
  have H := Aside0.mk h
  clear h
  go_enter Tryd.func145, Tryd.ntmps145
  go_wp2_with (go_at_call 129; (with_reducible refine (impl_within.calls x 0 20 b _ H.out).mono ?_); rintro e w' ⟨rfl, ⟨nd, rfl⟩⟩)
  go_ret
  exact ⟨rfl, by repeat (first | exact Drawn0.refl _ | apply Drawn0.step)⟩
def cf_IsHouse1.f (l0 : List Int) : Option Bool := if l0.length ≤ 9223372036854775807 then some (l0.any fun x => !decide (1 ≤ x ∧ x ≤ 40)) else none
theorem cf_IsHouse1.calls (A0 : Option Addr) (c0 : Nat) (l0 : List Int) (r : Bool) (w : World) (hr0 : Kd.C (Kd.int .i64) w A0 l0.length l0) (hc0 : l0.length ≤ c0) (h : cf_IsHouse1.f l0 = some r) :
    Calls Tryd.prog 143 #[.slice A0 l0.length c0, .func (.func 144) #[] #[]] w fun e w' => e = .returned (.bool r) ∧ Drawn0 w w' := by
  unfold cf_IsHouse1.f at h
  by_cases hm : l0.length ≤ 9223372036854775807
  · rw [if_pos hm] at h
    obtain rfl := Option.some.inj h
    exact cf_contains _ _ (cf_none 1 40 _ cf_walk1) (enters_of Tryd.func144 (by kernel_rfl) rfl) A0 c0 l0 w hr0 hm
  · rw [if_neg hm] at h
    exact absurd h (by simp)
def cf_IsHouse2.f (l0 : List Int) : Option Bool := if l0.length ≤ 9223372036854775807 then some (l0.any fun x => !decide (0 ≤ x ∧ x ≤ 20)) else none
theorem cf_IsHouse2.calls (A0 : Option Addr) (c0 : Nat) (l0 : List Int) (r : Bool) (w : World) (hr0 : Kd.C (Kd.int .i64) w A0 l0.length l0) (hc0 : l0.length ≤ c0) (h : cf_IsHouse2.f l0 = some r) :
    Calls Tryd.prog 143 #[.slice A0 l0.length c0, .func (.func 145) #[] #[]] w fun e w' => e = .returned (.bool r) ∧ Drawn0 w w' := by
  unfold cf_IsHouse2.f at h
  by_cases hm : l0.length ≤ 9223372036854775807
  · rw [if_pos hm] at h
    obtain rfl := Option.some.inj h
    exact cf_contains _ _ (cf_none 0 20 _ cf_walk2) (enters_of Tryd.func145 (by kernel_rfl) rfl) A0 c0 l0 w hr0 hm
  · rw [if_neg hm] at h
    exact absurd h (by simp)

end Go.Proofs.YtbmdgmmegchmnaaDoor.U
