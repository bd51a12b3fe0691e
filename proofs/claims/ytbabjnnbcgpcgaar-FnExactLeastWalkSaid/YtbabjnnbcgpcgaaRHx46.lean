/- Contracts of the Go functions that the laws reach, each for every input and every memory: written by a program of this session over the kit print, with contracts of its own for what that leaves out. No further condition. -/
import Derived.Test.YtbabjnnbcgpcgaaRHx0
namespace Go.Proofs.YtbabjnnbcgpcgaaR.H
open Go.RowKit Go.Proofs.YtbabjnnbcgpcgaaRW.PrintWords Go.Proofs.YtbabjnnbcgpcgaaRW.PrintLast Go.Proofs.YtbabjnnbcgpcgaaRW.PrintMore
attribute [local go_sem] max2_int min2_int max_two min_two max_three min_three max_four min_four   -- for this text's walks alone
set_option linter.unusedVariables false
set_option linter.unusedSimpArgs false


/-! ### slices.Max at []int: function 42: the session's own -/
def mxl : List Int → Int → Int
  | [], m => m
  | x :: t, m => mxl t (mx m x)
theorem mxl_drop (l : List Int) (k : Nat) (hk : k < l.length) (m : Int) : mxl (l.drop k) m = mxl (l.drop (k + 1)) (mx m (rd l k)) := by
  have e : rd l (k : Int) = l[k] := by simp [rd, List.getD, hk]
  rw [List.drop_eq_getElem_cons hk, e]
  rfl
def slices_Max_int_int.f (l0 : List Int) : Option Int := if 0 < l0.length ∧ l0.length ≤ 9223372036854775807 then some (mxl (l0.drop 1) (rd l0 0)) else none
set_option maxHeartbeats 8000000 in
set_option maxRecDepth 100000 in
theorem slices_Max_int_int.calls (A0 : Option Addr) (c0 : Nat) (l0 : List Int) (r : Int) (w : World) (hr0 : Kd.C (Kd.int .i64) w A0 l0.length l0) (hc0 : l0.length ≤ c0) (h : slices_Max_int_int.f l0 = some r) :
    Calls Try.prog 42 #[.slice A0 l0.length c0] w fun e w' => e = .returned (.int .i64 r) ∧ Drawn0 w w' := by
  unfold slices_Max_int_int.f at h
  by_cases c2 : 0 < l0.length ∧ l0.length ≤ 9223372036854775807
  · rw [if_pos c2] at h
    have hr := Option.some.inj h
    obtain ⟨h0, hm⟩ := c2
    have HRr := Aside0.mk hr
    clear h hr
    obtain ⟨ad, e, hx0⟩ := Kd.at_int hr0 0 (by omega) (by omega)
    cases e
    have HR0 := Aside0.mk hr0
    clear hr0 hc0
    have hl0 : decide ((l0.length : Int) < 1) = false := decide_eq_false (by omega)
    have hl1 : decide (l0.length < 1) = false := decide_eq_false (by omega)
    have hl2 : (0 : Int) < (l0.length : Int) := by omega
    generalize hy : rd l0 0 = y at hx0
    have HY := Aside0.mk hy
    clear hy
    have hx1 : w.cell? ad = some (.int .i64 y) := by simpa [Addr.add] using hx0
    clear hx0
    go_enter Try.func42, Try.ntmps42
    go_wp2
    go_loopg [3, 4] l0.length (fun gg v3 v4 w' => ∃ (kk : Nat) (m : Int), kk ≤ l0.length ∧ l0.length - kk ≤ gg ∧ v3 = .int .i64 m ∧ v4 = .int .i64 (kk : Int) ∧ Aside0 (mxl (l0.drop kk) m = r) ∧ Drawn0 w w')
    case atStart => exact ⟨1, y, by omega, by omega, rfl, rfl, ⟨by rw [← HY.out]; exact HRr.out⟩, by repeat (first | exact Drawn0.refl _ | apply Drawn0.step)⟩
    case round =>
      obtain ⟨kk, m, hk, hg, rfl, rfl, R, ⟨m1, rfl⟩⟩ := hrel
      by_cases hlt : kk < l0.length
      · have hltz : (kk : Int) < (l0.length : Int) := by omega
        obtain ⟨ad2, e, hx⟩ := Kd.at_int HR0.out (kk : Int) (by omega) hltz
        cases e
        rw [Int.toNat_natCast] at hx
        have H1 := Aside0.mk (mxl_drop l0 kk hlt m)
        generalize hy2 : rd l0 (kk : Int) = y2 at hx
        have HY2 := Aside0.mk hy2
        clear hy2
        go_wp2
        all_goals
          go_roundg (l0.length - (kk + 1))
          case measure => omega
          case rel => exact ⟨kk + 1, mx m y2, by omega, by omega, by unfold mx; first | rw [if_pos (by assumption)] | rw [if_neg (by assumption)] | rw [if_neg (by omega)], by go_num, ⟨by have := H1.out; rw [HY2.out] at this; rw [← this]; exact R.out⟩, by repeat (first | exact Drawn0.refl _ | apply Drawn0.step)⟩
      · have hltz : ¬ (kk : Int) < (l0.length : Int) := by omega
        obtain rfl : kk = l0.length := by omega
        have R2 : m = r := by
          have := R.out
          rw [List.drop_of_length_le (Nat.le_refl _)] at this
          exact this
        clear R
        subst R2
        go_wp2
        go_ret
        exact ⟨rfl, by repeat (first | exact Drawn0.refl _ | apply Drawn0.step)⟩
  · rw [if_neg c2] at h
    exact absurd h (by simp)

end Go.Proofs.YtbabjnnbcgpcgaaR.H
