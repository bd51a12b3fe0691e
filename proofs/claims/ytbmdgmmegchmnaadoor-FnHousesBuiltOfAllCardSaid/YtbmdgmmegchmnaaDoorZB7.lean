/- Contracts of the Go functions that the laws reach, each for every input and every memory: written by a program of this session over the kit print, with contracts of its own for what that leaves out. No further condition. -/
import Derived.Test.YtbmdgmmegchmnaaDoorZB3
import Derived.Test.YtbmdgmmegchmnaaDoorZB6
namespace Go.Proofs.YtbmdgmmegchmnaaDoor.B
open Go.RowKit Go.Proofs.YtbmdgmmegchmnaaDoorW.PrintWords Go.Proofs.YtbmdgmmegchmnaaDoorW.PrintLast Go.Proofs.YtbmdgmmegchmnaaDoorW.PrintMore
attribute [local go_sem] max2_int min2_int max_two min_two max_three min_three max_four min_four
set_option linter.unusedVariables false
set_option linter.unusedSimpArgs false
def laws_wSum.l0 : Nat → Int → List Int → Int → Int → Option (Int)
 | 0, _, _, _, _ => none
 | k + 1, x3, x6, x7, x8 => if x8 < x7 then (if 0 ≤ x8 then (if x8 < (x6.length : Int) then (laws_wSum.l0 k (wrap64 (x3 + (rd x6 x8))) x6 x7 (wrap64 (x8 + 1))) else (none)) else (none)) else (some x3)
def laws_wSum.f (k : Nat) (l0 : List Int) : Option (Int) := laws_wSum.l0 k 0 l0 (l0.length : Int) 0
set_option maxHeartbeats 8000000 in
set_option maxRecDepth 100000 in
theorem laws_wSum.calls (k : Nat) (A0 : Option Addr) (c0 : Nat) (l0 : List Int) (r : Int) (w : World) (hr0 : Kd.C (Kd.int .i64) w A0 l0.length l0) (hc0 : l0.length ≤ c0) (h : laws_wSum.f k l0 = some r) :
 Calls Tryd.prog 77 #[.slice A0 l0.length c0] w fun e w' => e = .returned (.int .i64 r) ∧ Drawn0 w w' := by
 have HR0 := Aside0.mk hr0
 have HC0 := Aside0.mk hc0
 clear hr0 hc0
 have H : (laws_wSum.l0 k 0 l0 (l0.length : Int) 0) = some r := h
 clear h
 have H' := Aside0.mk H
 clear H
 go_enter Tryd.func77, Tryd.ntmps77
 go_wp2
 go_loopg [3, 8] k (fun kq v3 v8 w' => ∃ (x3_1 : Int) (x8_1 : Int), v3 = .int .i64 x3_1 ∧ v8 = .int .i64 x8_1 ∧ Aside0 (laws_wSum.l0 kq x3_1 l0 (l0.length : Int) x8_1 = some r) ∧ Aside0 (kq ≤ k) ∧ Drawn0 w w')
 case atStart => exact ⟨(0), (0), (by first | rfl | (simp; done) | (simp [*]; done)), (by first | rfl | (simp; done) | (simp [*]; done)), H', ⟨Nat.le_refl _⟩, by repeat (first | exact Drawn0.refl _ | apply Drawn0.step)⟩
 case round =>
  clear H'
  obtain ⟨x3_1, x8_1, rfl, rfl, HA, HK1, ⟨m1, rfl⟩⟩ := hrel
  cases gk with
  | zero => exact absurd HA.out (by simp [laws_wSum.l0])
  | succ k1 =>
   have H := HA.out
   clear HA
   simp only [laws_wSum.l0] at H
   by_cases c2 : x8_1 < (l0.length : Int)
   ·rw [if_pos c2] at H
    have c2b0 : decide (x8_1 < (l0.length : Int)) = true := decide_eq_true c2
    clear c2
    by_cases c3 : 0 ≤ x8_1
    ·rw [if_pos c3] at H
     have c3b0 : decide (0 ≤ x8_1) = true := decide_eq_true c3
     clear c3
     by_cases c4 : x8_1 < (l0.length : Int)
     ·rw [if_pos c4] at H
      have c4b0 : decide (x8_1 < (l0.length : Int)) = true := decide_eq_true c4
      clear c4
      have H' := Aside0.mk H
      clear H
      have p327 : 0 ≤ (x8_1 : Int) := of_decide_eq_true (by first | (with_reducible assumption) | assumption)
      have q327 : x8_1 < (l0.length : Int) := of_decide_eq_true (by first | (with_reducible assumption) | assumption)
      obtain ⟨ad327, e327, hx327_0⟩ := Kd.at_int HR0.out x8_1 p327 q327
      cases e327
      replace p327 := eq_true p327
      replace q327 := eq_true q327
      go_wp2
      go_roundg k1
      case measure => have := HK1.out; omega
      case rel => exact ⟨(wrap64 (x3_1 + (rd l0 x8_1))), (wrap64 (x8_1 + 1)), (by first | rfl | (simp; done) | (simp [*]; done)), (by first | rfl | (simp; done) | (simp [*]; done)), H', ⟨by have := HK1.out; omega⟩, by repeat (first | exact Drawn0.refl _ | apply Drawn0.step)⟩
     ·rw [if_neg c4] at H
      exact absurd H (by simp)
    ·rw [if_neg c3] at H
     exact absurd H (by simp)
   ·rw [if_neg c2] at H
    have c2b0 : decide (x8_1 < (l0.length : Int)) = false := decide_eq_false c2
    clear c2
    obtain rfl := Option.some.inj H
    go_wp2
    go_ret
    exact ⟨by first | rfl | (simp; done) | (simp [*]; done), by repeat (first | exact Drawn0.refl _ | apply Drawn0.step)⟩
end Go.Proofs.YtbmdgmmegchmnaaDoor.B
namespace Go.Proofs.YtbmdgmmegchmnaaDoor.B
open Go.RowKit Go.Proofs.YtbmdgmmegchmnaaDoorW.PrintWords Go.Proofs.YtbmdgmmegchmnaaDoorW.PrintLast Go.Proofs.YtbmdgmmegchmnaaDoorW.PrintMore
attribute [local go_sem] max2_int min2_int max_two min_two max_three min_three max_four min_four
set_option linter.unusedVariables false
set_option linter.unusedSimpArgs false
end Go.Proofs.YtbmdgmmegchmnaaDoor.B
namespace Go.Proofs.YtbmdgmmegchmnaaDoor.B
open Go.RowKit Go.Proofs.YtbmdgmmegchmnaaDoorW.PrintWords Go.Proofs.YtbmdgmmegchmnaaDoorW.PrintLast Go.Proofs.YtbmdgmmegchmnaaDoorW.PrintMore
attribute [local go_sem] max2_int min2_int max_two min_two max_three min_three max_four min_four
set_option linter.unusedVariables false
set_option linter.unusedSimpArgs false
def impl_AddFloor.j0 : Nat → Int → Int → Bool → List Int → List Int → Option (List Int × List Int × Bool)
 | 0, _, _, _, _, _ => none
 | k + 1, x1, x2, x26, x329000, x329001 => if x26 = true then (some (([] : List Int), ([] : List Int), false)) else ((slices_Clone_int_int.f x329000).bind fun t333 => ((some (([x1] : List Int) : List Int)).bind fun y336 => (if t333.length + y336.length < 17592186044416 then ((slices_Clone_int_int.f x329001).bind fun t342 => ((some (([x2] : List Int) : List Int)).bind fun y345 => (if t342.length + y345.length < 17592186044416 then (some ((t333 ++ y336), (t342 ++ y345), true)) else (none)))) else (none))))
def impl_AddFloor.f (k : Nat) (l0_0 : List Int) (l0_1 : List Int) (a1 : Int) (a2 : Int) : Option (List Int × List Int × Bool) := (impl_IsHouse.f l0_0 l0_1).bind fun t330 => (if t330 = true then ((impl_within.f a1 1 40).bind fun t331 => (if t331 = true then ((impl_within.f a2 0 20).bind fun t332 => (if t332 = true then (impl_AddFloor.j0 k a1 a2 ((l0_1.length : Int) == 12) l0_0 l0_1) else (impl_AddFloor.j0 k a1 a2 true l0_0 l0_1))) else (impl_AddFloor.j0 k a1 a2 true l0_0 l0_1))) else (impl_AddFloor.j0 k a1 a2 true l0_0 l0_1))
def impl_AddFloor.T3 : Bool × List (List Nat × List Nat) := (true, [([], []), ([0], [0]), ([1], [1]), ([], []), ([3], [3]), ([2, 4, 2], [2, 4]), ([], []), ([6], [6]), ([7, 5], [7]), ([], []), ([9], [9]), ([8, 10, 8], [8, 10]), ([5, 11], [5, 11]), ([12, 11, 0, 1, 2, 3, 4, 5, 6, 7, 8, 9, 10, 11, 12], [12]), ([13, 0, 1, 2, 3, 4, 5, 6, 7, 8, 9, 10, 11, 12, 13], [])])
def impl_AddFloor.B3 : List Nat := [0, 1, 3, 0, 8, 31, 0, 64, 255, 0, 512, 2047, 4095, 8191, 16383]
theorem impl_AddFloor.tab3 : rtab .any (opsOf Tryd.f78 3) = impl_AddFloor.T3 := by kernel_rfl
theorem impl_AddFloor.bits3 : waitsOk impl_AddFloor.T3.2 impl_AddFloor.B3 = true := by kernel_rfl
set_option maxHeartbeats 8000000 in
set_option maxRecDepth 100000 in
theorem impl_AddFloor.calls (k : Nat) (A0_0 : Option Addr) (c0_0 : Nat) (l0_0 : List Int) (A0_1 : Option Addr) (c0_1 : Nat) (l0_1 : List Int) (a1 : Int) (a2 : Int) (r1 : List Int) (r2 : List Int) (r3 : Bool) (w : World) (hr0_0 : Kd.C (Kd.int .i64) w A0_0 l0_0.length l0_0) (hc0_0 : l0_0.length ≤ c0_0) (hr0_1 : Kd.C (Kd.int .i64) w A0_1 l0_1.length l0_1) (hc0_1 : l0_1.length ≤ c0_1) (h : impl_AddFloor.f k l0_0 l0_1 a1 a2 = some (r1, r2, r3)) :
 Calls Tryd.prog 78 #[.agg #[.slice A0_0 l0_0.length c0_0, .slice A0_1 l0_1.length c0_1], .int .i64 a1, .int .i64 a2] w fun e w' => ∃ v0_ v1_ : Value, e = .returned (.tuple #[.agg #[v0_, v1_], .bool r3]) ∧ Kd.R (Kd.int .i64) 3 w' w.heap.size (fun k_ => some k_ ≠ (v1_ : Value).ownBlock) v0_ r1 ∧ Kd.R (Kd.int .i64) 3 w' w.heap.size (fun k_ => some k_ ≠ (v0_ : Value).ownBlock) v1_ r2 ∧ Below w.heap.size w w' := by
 have hu40 := Tryd.underlying40
 have HR0_0 := Aside0.mk hr0_0
 have HC0_0 := Aside0.mk hc0_0
 clear hr0_0 hc0_0
 have HR0_1 := Aside0.mk hr0_1
 have HC0_1 := Aside0.mk hc0_1
 clear hr0_1 hc0_1
 have HB := Aside0.mk (Below.refl w.heap.size w)
 have H : ((impl_IsHouse.f l0_0 l0_1).bind fun t330 => (if t330 = true then ((impl_within.f a1 1 40).bind fun t331 => (if t331 = true then ((impl_within.f a2 0 20).bind fun t332 => (if t332 = true then (impl_AddFloor.j0 k a1 a2 ((l0_1.length : Int) == 12) l0_0 l0_1) else (impl_AddFloor.j0 k a1 a2 true l0_0 l0_1))) else (impl_AddFloor.j0 k a1 a2 true l0_0 l0_1))) else (impl_AddFloor.j0 k a1 a2 true l0_0 l0_1))) = some (r1, r2, r3) := h
 clear h
 have HC4 := Aside0.mk H
 clear H
 go_enter Tryd.func78, Tryd.ntmps78
 go_upto_region 1 with (first | ((with_reducible refine gate_dst (N := 3) rfl ?_); (try (refine gate_guard (by rfl) ?_; dsimp only)); refine bx_ 3 #[.slice A0_0 l0_0.length c0_0, .slice A0_1 l0_1.length c0_1] 40 ?_; intro gb328 hg w5 hbox hb; have BK328 := Aside0.mk (hbox); have GW328 := gw_ HB hg; have GE328 := GW328; replace HB := bs_ HB hb; clear hb hbox hg) | ((with_reducible refine gate_dst (N := 6) rfl ?_); (try (refine gate_guard (by rfl) ?_; dsimp only)); refine bx_ 6 #[.slice none 0 0, .slice none 0 0] 40 ?_; intro gb329 hg w6 hbox hb; have BK329 := Aside0.mk (hbox); have GW329 := gw_ HB hg; have GE329 := GW329; have NB328_329 := nl_ BK328 hg; have NB329_328 := nr_ BK328 hg; replace BK328 := kb_ BK328 hb; replace HB := bs_ HB hb; clear hb hbox hg))
 (try simp only [Act.put, List.setIfInBounds_toArray, List.set_cons_zero, List.set_cons_succ])
 go_cut [26] (fun v26 wc => ∃ (kq : Nat) (x26_3 : Bool), v26 = .bool x26_3 ∧ Aside0 (impl_AddFloor.j0 kq a1 a2 x26_3 l0_0 l0_1 = some (r1, r2, r3)) ∧ Aside0 (kq ≤ k) ∧ Aside0 (wc.heap[gb328]? = some (.cells #[(.slice A0_0 l0_0.length c0_0), (.slice A0_1 l0_1.length c0_1)] 40 (0, 0))) ∧ Aside0 (wc.heap[gb329]? = some (.cells #[(.slice none 0 0), (.slice none 0 0)] 40 (0, 0))) ∧ Aside0 (Below w.heap.size w wc))
 case first =>
  have H := HC4.out
  clear HC4
  replace H := Option.bind_eq_some_iff.mp H
  obtain ⟨t330, A70, H⟩ := H
  try dsimp only at H
  have A7 := Aside0.mk A70
  clear A70
  by_cases c8 : t330 = true
  ·subst c8
   rw [if_pos rfl] at H
   replace H := Option.bind_eq_some_iff.mp H
   obtain ⟨t331, A90, H⟩ := H
   try dsimp only at H
   have A9 := Aside0.mk A90
   clear A90
   by_cases c10 : t331 = true
   ·subst c10
    rw [if_pos rfl] at H
    replace H := Option.bind_eq_some_iff.mp H
    obtain ⟨t332, A110, H⟩ := H
    try dsimp only at H
    have A11 := Aside0.mk A110
    clear A110
    by_cases c12 : t332 = true
    ·subst c12
     rw [if_pos rfl] at H
     have H' := Aside0.mk H
     clear H
     have hnb13 := NB328_329.out
     have hnc13 := NB329_328.out
     obtain ⟨hcz14_0, hcz14_1, hfz14_0, hfz14_1⟩ := cf2_ BK328
     go_wp2_with (first | ((with_reducible refine gate_callee (f := 73) rfl ?_); refine gL_ (some 9) Tryd.func73 #[.agg #[.slice A0_0 l0_0.length c0_0, .slice A0_1 l0_1.length c0_1]] ?_; (with_reducible refine (impl_IsHouse.calls _ _ l0_0 _ _ l0_1 true _ ?side1 ?side2 ?side3 ?side4 A7.out).mono ?_); (case side1 => exact cs_ (Kd.C_below HR0_0.out HB.out)); (case side2 => exact HC0_0.out); (case side3 => exact cs_ (Kd.C_below HR0_1.out HB.out)); (case side4 => exact HC0_1.out); rintro e w15 ⟨rfl, hb⟩; refine ⟨_, rfl, ?_⟩; replace BK328 := kb_ BK328 hb; replace BK329 := kb_ BK329 hb; replace HB := bs_ HB hb; (try clear hb)) | (go_at_call 129; (with_reducible refine (impl_within.calls a1 1 40 true _ A9.out).mono ?_); rintro e w' ⟨rfl, ⟨nd, rfl⟩⟩) | (go_at_call 129; (with_reducible refine (impl_within.calls a2 0 20 true _ A11.out).mono ?_); rintro e w' ⟨rfl, ⟨nd, rfl⟩⟩; obtain ⟨hcz16_0, hcz16_1, hfz16_0, hfz16_1⟩ := cf2_ BK328))
     go_meet
     case rel => exact ⟨_, (((l0_1.length : Int) == 12)), (by first | rfl | (simp; done) | (simp [*]; done)), H', ⟨by first | omega | exact Nat.le_refl _⟩, ⟨up_ BK328.out⟩, ⟨up_ BK329.out⟩, ⟨dn_ HB.out⟩⟩
    ·replace c12 := Bool.eq_false_iff.mpr c12
     subst c12
     rw [if_neg (show ¬ (false = true) by decide)] at H
     have H' := Aside0.mk H
     clear H
     have hnb17 := NB328_329.out
     have hnc17 := NB329_328.out
     obtain ⟨hcz18_0, hcz18_1, hfz18_0, hfz18_1⟩ := cf2_ BK328
     go_wp2_with (first | ((with_reducible refine gate_callee (f := 73) rfl ?_); refine gL_ (some 9) Tryd.func73 #[.agg #[.slice A0_0 l0_0.length c0_0, .slice A0_1 l0_1.length c0_1]] ?_; (with_reducible refine (impl_IsHouse.calls _ _ l0_0 _ _ l0_1 true _ ?side1 ?side2 ?side3 ?side4 A7.out).mono ?_); (case side1 => exact cs_ (Kd.C_below HR0_0.out HB.out)); (case side2 => exact HC0_0.out); (case side3 => exact cs_ (Kd.C_below HR0_1.out HB.out)); (case side4 => exact HC0_1.out); rintro e w19 ⟨rfl, hb⟩; refine ⟨_, rfl, ?_⟩; replace BK328 := kb_ BK328 hb; replace BK329 := kb_ BK329 hb; replace HB := bs_ HB hb; (try clear hb)) | (go_at_call 129; (with_reducible refine (impl_within.calls a1 1 40 true _ A9.out).mono ?_); rintro e w' ⟨rfl, ⟨nd, rfl⟩⟩) | (go_at_call 129; (with_reducible refine (impl_within.calls a2 0 20 false _ A11.out).mono ?_); rintro e w' ⟨rfl, ⟨nd, rfl⟩⟩))
     go_meet
     case rel => exact ⟨_, (true), (by first | rfl | (simp; done) | (simp [*]; done)), H', ⟨by first | omega | exact Nat.le_refl _⟩, ⟨up_ BK328.out⟩, ⟨up_ BK329.out⟩, ⟨dn_ HB.out⟩⟩
   ·replace c10 := Bool.eq_false_iff.mpr c10
    subst c10
    rw [if_neg (show ¬ (false = true) by decide)] at H
    have H' := Aside0.mk H
    clear H
    have hnb20 := NB328_329.out
    have hnc20 := NB329_328.out
    obtain ⟨hcz21_0, hcz21_1, hfz21_0, hfz21_1⟩ := cf2_ BK328
    go_wp2_with (first | ((with_reducible refine gate_callee (f := 73) rfl ?_); refine gL_ (some 9) Tryd.func73 #[.agg #[.slice A0_0 l0_0.length c0_0, .slice A0_1 l0_1.length c0_1]] ?_; (with_reducible refine (impl_IsHouse.calls _ _ l0_0 _ _ l0_1 true _ ?side1 ?side2 ?side3 ?side4 A7.out).mono ?_); (case side1 => exact cs_ (Kd.C_below HR0_0.out HB.out)); (case side2 => exact HC0_0.out); (case side3 => exact cs_ (Kd.C_below HR0_1.out HB.out)); (case side4 => exact HC0_1.out); rintro e w22 ⟨rfl, hb⟩; refine ⟨_, rfl, ?_⟩; replace BK328 := kb_ BK328 hb; replace BK329 := kb_ BK329 hb; replace HB := bs_ HB hb; (try clear hb)) | (go_at_call 129; (with_reducible refine (impl_within.calls a1 1 40 false _ A9.out).mono ?_); rintro e w' ⟨rfl, ⟨nd, rfl⟩⟩))
    go_meet
    case rel => exact ⟨_, (true), (by first | rfl | (simp; done) | (simp [*]; done)), H', ⟨by first | omega | exact Nat.le_refl _⟩, ⟨up_ BK328.out⟩, ⟨up_ BK329.out⟩, ⟨dn_ HB.out⟩⟩
  ·replace c8 := Bool.eq_false_iff.mpr c8
   subst c8
   rw [if_neg (show ¬ (false = true) by decide)] at H
   have H' := Aside0.mk H
   clear H
   have hnb23 := NB328_329.out
   have hnc23 := NB329_328.out
   obtain ⟨hcz24_0, hcz24_1, hfz24_0, hfz24_1⟩ := cf2_ BK328
   go_wp2_with (first | ((with_reducible refine gate_callee (f := 73) rfl ?_); refine gL_ (some 9) Tryd.func73 #[.agg #[.slice A0_0 l0_0.length c0_0, .slice A0_1 l0_1.length c0_1]] ?_; (with_reducible refine (impl_IsHouse.calls _ _ l0_0 _ _ l0_1 false _ ?side1 ?side2 ?side3 ?side4 A7.out).mono ?_); (case side1 => exact cs_ (Kd.C_below HR0_0.out HB.out)); (case side2 => exact HC0_0.out); (case side3 => exact cs_ (Kd.C_below HR0_1.out HB.out)); (case side4 => exact HC0_1.out); rintro e w25 ⟨rfl, hb⟩; refine ⟨_, rfl, ?_⟩; replace BK328 := kb_ BK328 hb; replace BK329 := kb_ BK329 hb; replace HB := bs_ HB hb; (try clear hb)))
   go_meet
   case rel => exact ⟨_, (true), (by first | rfl | (simp; done) | (simp [*]; done)), H', ⟨by first | omega | exact Nat.le_refl _⟩, ⟨up_ BK328.out⟩, ⟨up_ BK329.out⟩, ⟨dn_ HB.out⟩⟩
 case rest =>
  clear HC4
  (try clear c1); (try clear c2); (try clear p2); (try clear c7); (try clear c8); (try clear c10); (try clear c12); (try clear c13); (try clear c17); (try clear c20); (try clear c23); (try clear hcz14_0); (try clear hcz14_1); (try clear hcz16_0); (try clear hcz16_1); (try clear hcz18_0); (try clear hcz18_1); (try clear hcz21_0); (try clear hcz21_1); (try clear hcz24_0); (try clear hcz24_1); (try clear hfz14_0); (try clear hfz14_1); (try clear hfz16_0); (try clear hfz16_1); (try clear hfz18_0); (try clear hfz18_1); (try clear hfz21_0); (try clear hfz21_1); (try clear hfz24_0); try clear hfz24_1
  obtain ⟨kq, x26_3, rfl, HA, HJ3, BK328, BK329, HB⟩ := hcut
  cases kq with
  | zero => exact absurd HA.out (by simp [impl_AddFloor.j0])
  | succ kj3 =>
   have H := HA.out
   clear HA
   simp only [impl_AddFloor.j0] at H
   by_cases c26 : x26_3 = true
   ·subst c26
    rw [if_pos rfl] at H
    simp only [Option.some.injEq, Prod.mk.injEq] at H
    obtain ⟨rfl, rfl, rfl⟩ := H
    have hnb27 := NB329_328.out
    have hnc27 := NB328_329.out
    obtain ⟨hcz28_0, hcz28_1, hfz28_0, hfz28_1⟩ := cf2_ BK329
    go_wp2
    refine bodyPost_ret (results_ct rfl _ _ gb329 40 #[.slice none 0 0, .slice none 0 0] (0, 0) _ rfl (by refine lk_ ?_; refine blk_put (cs := #[.slice none 0 0, .slice none 0 0]) ?_ 1 _ rfl; refine lk_ ?_; refine blk_put (cs := #[.slice none 0 0, .slice none 0 0]) ?_ 0 _ rfl; (with_reducible repeat (first | refine blk_drewN ?_ _ | refine blk_drew ?_ | refine blk_alloc ?_ _)); exact BK329.out) Tryd.underlying40 rfl (by kernel_rfl)) rfl ?_
    exact ⟨_, _, by first | rfl | (simp [errW_none, errW_some] <;> rfl) | (simp [*, errW_none, errW_some] <;> rfl), by first | exact Kd.R_nil _ _ _ _ _ | exact Kd.N_nil _ _ _ _ _ | exact Kd.V_nil _ _ _ _ _ | exact Kd.Q_nil _ _ _ _ _ | exact Kd.S_nil _ _ _ _ _, by first | exact Kd.R_nil _ _ _ _ _ | exact Kd.N_nil _ _ _ _ _ | exact Kd.V_nil _ _ _ _ _ | exact Kd.Q_nil _ _ _ _ _ | exact Kd.S_nil _ _ _ _ _, dn_ HB.out⟩
   ·replace c26 := Bool.eq_false_iff.mpr c26
    subst c26
    rw [if_neg (show ¬ (false = true) by decide)] at H
    replace H := Option.bind_eq_some_iff.mp H
    obtain ⟨t333, A290, H⟩ := H
    try dsimp only at H
    have A29 := Aside0.mk A290
    clear A290
    obtain ⟨y336, hy336⟩ : ∃ y_ : List Int, y_ = (([a1] : List Int)) := ⟨_, rfl⟩
    replace H : (if t333.length + y336.length < 17592186044416 then ((slices_Clone_int_int.f l0_1).bind fun t342 => ((some (([a2] : List Int) : List Int)).bind fun y345 => (if t342.length + y345.length < 17592186044416 then (some ((t333 ++ y336), (t342 ++ y345), true)) else (none)))) else (none)) = some (r1, r2, r3) := by first | (rw [hy336]; with_reducible exact H) | (have H2_ := (Option.bind_some _ _).symm.trans H; rw [hy336]; with_reducible exact H2_) | (have H2_ := (Option.bind_some _ _).symm.trans H; with_reducible exact H2_) | with_reducible exact H | (rw [hy336]; exact H) | exact H
    have Ny336 := Aside0.mk hy336
    clear hy336
    by_cases c30 : t333.length + y336.length < 17592186044416
    ·rw [if_pos c30] at H
     have LMc30 := Aside0.mk c30
     clear c30
     obtain ⟨y339, hy339⟩ : ∃ y_ : List Int, y_ = (t333 ++ y336) := ⟨_, rfl⟩
     replace H : ((slices_Clone_int_int.f l0_1).bind fun t342 => ((some (([a2] : List Int) : List Int)).bind fun y345 => (if t342.length + y345.length < 17592186044416 then (some (y339, (t342 ++ y345), true)) else (none)))) = some (r1, r2, r3) := by first | (rw [hy339]; with_reducible exact H) | (have H2_ := (Option.bind_some _ _).symm.trans H; rw [hy339]; with_reducible exact H2_) | (have H2_ := (Option.bind_some _ _).symm.trans H; with_reducible exact H2_) | with_reducible exact H | (rw [hy339]; exact H) | exact H
     have Ny339 := Aside0.mk hy339
     clear hy339
     replace H := Option.bind_eq_some_iff.mp H
     obtain ⟨t342, A310, H⟩ := H
     try dsimp only at H
     have A31 := Aside0.mk A310
     clear A310
     obtain ⟨y345, hy345⟩ : ∃ y_ : List Int, y_ = (([a2] : List Int)) := ⟨_, rfl⟩
     replace H : (if t342.length + y345.length < 17592186044416 then (some (y339, (t342 ++ y345), true)) else (none)) = some (r1, r2, r3) := by first | (rw [hy345]; with_reducible exact H) | (have H2_ := (Option.bind_some _ _).symm.trans H; rw [hy345]; with_reducible exact H2_) | (have H2_ := (Option.bind_some _ _).symm.trans H; with_reducible exact H2_) | with_reducible exact H | (rw [hy345]; exact H) | exact H
     have Ny345 := Aside0.mk hy345
     clear hy345
     by_cases c32 : t342.length + y345.length < 17592186044416
     ·rw [if_pos c32] at H
      have LMc32 := Aside0.mk c32
      clear c32
      obtain ⟨y348, hy348⟩ : ∃ y_ : List Int, y_ = (t342 ++ y345) := ⟨_, rfl⟩
      replace H : (some (y339, y348, true)) = some (r1, r2, r3) := by first | (rw [hy348]; with_reducible exact H) | (have H2_ := (Option.bind_some _ _).symm.trans H; rw [hy348]; with_reducible exact H2_) | (have H2_ := (Option.bind_some _ _).symm.trans H; with_reducible exact H2_) | with_reducible exact H | (rw [hy348]; exact H) | exact H
      have Ny348 := Aside0.mk hy348
      clear hy348
      simp only [Option.some.injEq, Prod.mk.injEq] at H
      obtain ⟨rfl, rfl, rfl⟩ := H
      try go_wp2
      replace BK328 := Aside0.mk (blk_drew BK328.out)
      replace BK329 := Aside0.mk (blk_drew BK329.out)
      replace HB := Aside0.mk (below_drew1 HB.out)
      refine start_ (n := 15) (S := fun w' => w'.cell? ⟨gb328, 0, none⟩ = some (.slice A0_0 l0_0.length c0_0) ∧ w'.cell? ⟨gb328, 1, none⟩ = some (.slice A0_1 l0_1.length c0_1)) (ds := []) (bs 15 0) (by kernel_rfl) rfl (by kernel_rfl) ⟨(blk_cell BK328.out 0).trans rfl, (blk_cell BK328.out 1).trans rfl⟩ (fun hHeld => ?_); refine with_tabW impl_AddFloor.tab3 impl_AddFloor.bits3 (fun HT_ HW_ => ?_)
      generalize wc.drew = w33 at BK328 BK329 HB hHeld ⊢
      refine pA_ 0 28 15 1 ?_
      refine pA_ 3 31 15 9 ?_
      refine pA_ 6 34 15 73 ?_
      refine pA_ 9 37 15 585 ?_
      refine tA2_ 1 29 15 587 ?_
      refine tA2_ 7 35 15 715 ?_
      refine join_ (σ := Value × Value × Value × Value × Value) 4 (bs 15 2047) (fun s_ => [(30, s_.1), (32, s_.2.1), (33, s_.2.2.1), (36, s_.2.2.2.1), (38, s_.2.2.2.2)]) (fun s_ w' => (w'.cell? ⟨gb328, 0, none⟩ = some (.slice A0_0 l0_0.length c0_0) ∧ w'.cell? ⟨gb328, 1, none⟩ = some (.slice A0_1 l0_1.length c0_1)) ∧ (Kd.R (Kd.int .i64) 3 w' w.heap.size (fun k_ => some k_ ≠ (s_.2.2.1 : Value).ownBlock ∧ some k_ ≠ (s_.2.2.2.1 : Value).ownBlock ∧ some k_ ≠ (s_.2.2.2.2 : Value).ownBlock) s_.2.1 y336) ∧ (Kd.R (Kd.int .i64) 3 w' w.heap.size (fun k_ => some k_ ≠ (s_.2.1 : Value).ownBlock ∧ some k_ ≠ (s_.2.2.2.1 : Value).ownBlock ∧ some k_ ≠ (s_.2.2.2.2 : Value).ownBlock) s_.2.2.1 y339) ∧ (Kd.R (Kd.int .i64) 3 w' w.heap.size (fun k_ => some k_ ≠ (s_.2.1 : Value).ownBlock ∧ some k_ ≠ (s_.2.2.1 : Value).ownBlock ∧ some k_ ≠ (s_.2.2.2.2 : Value).ownBlock) s_.2.2.2.1 t342) ∧ (Kd.R (Kd.int .i64) 3 w' w.heap.size (fun k_ => some k_ ≠ (s_.2.1 : Value).ownBlock ∧ some k_ ≠ (s_.2.2.1 : Value).ownBlock ∧ some k_ ≠ (s_.2.2.2.1 : Value).ownBlock) s_.2.2.2.2 y345) ∧ (w'.heap[gb328]? = some (.cells #[.slice A0_0 l0_0.length c0_0, .slice A0_1 l0_1.length c0_1] 40 (0, 0))) ∧ (w'.heap[gb329]? = some (.cells #[.slice none 0 0, .slice none 0 0] 40 (0, 0))) ∧ (Below w.heap.size w w')) ?_ ?_
      rotate_left
      ·intro hJ2_4_5_8_10
       refine join_ (σ := Value × Value × Value × Value) 5 (bs 15 1023) (fun s_ => [(30, s_.1), (32, s_.2.1), (33, s_.2.2.1), (36, s_.2.2.2)]) (fun s_ w' => (w'.cell? ⟨gb328, 0, none⟩ = some (.slice A0_0 l0_0.length c0_0) ∧ w'.cell? ⟨gb328, 1, none⟩ = some (.slice A0_1 l0_1.length c0_1)) ∧ (Kd.R (Kd.int .i64) 3 w' w.heap.size (fun k_ => some k_ ≠ (s_.2.2.1 : Value).ownBlock ∧ some k_ ≠ (s_.2.2.2 : Value).ownBlock) s_.2.1 y336) ∧ (Kd.R (Kd.int .i64) 3 w' w.heap.size (fun k_ => some k_ ≠ (s_.2.1 : Value).ownBlock ∧ some k_ ≠ (s_.2.2.2 : Value).ownBlock) s_.2.2.1 y339) ∧ (Kd.R (Kd.int .i64) 3 w' w.heap.size (fun k_ => some k_ ≠ (s_.2.1 : Value).ownBlock ∧ some k_ ≠ (s_.2.2.1 : Value).ownBlock) s_.2.2.2 t342) ∧ (w'.heap[gb328]? = some (.cells #[.slice A0_0 l0_0.length c0_0, .slice A0_1 l0_1.length c0_1] 40 (0, 0))) ∧ (w'.heap[gb329]? = some (.cells #[.slice none 0 0, .slice none 0 0] 40 (0, 0))) ∧ (Below w.heap.size w w')) ?_ ?_
       rotate_left
       ·intro hJ2_4_5_8
        refine join_ (σ := Value × Value × Value × Value) 5 (bs 15 1791) (fun s_ => [(30, s_.1), (32, s_.2.1), (33, s_.2.2.1), (38, s_.2.2.2)]) (fun s_ w' => (w'.cell? ⟨gb328, 0, none⟩ = some (.slice A0_0 l0_0.length c0_0) ∧ w'.cell? ⟨gb328, 1, none⟩ = some (.slice A0_1 l0_1.length c0_1)) ∧ (Kd.R (Kd.int .i64) 3 w' w.heap.size (fun k_ => some k_ ≠ (s_.2.2.1 : Value).ownBlock ∧ some k_ ≠ (s_.2.2.2 : Value).ownBlock) s_.2.1 y336) ∧ (Kd.R (Kd.int .i64) 3 w' w.heap.size (fun k_ => some k_ ≠ (s_.2.1 : Value).ownBlock ∧ some k_ ≠ (s_.2.2.2 : Value).ownBlock) s_.2.2.1 y339) ∧ (Kd.R (Kd.int .i64) 3 w' w.heap.size (fun k_ => some k_ ≠ (s_.2.1 : Value).ownBlock ∧ some k_ ≠ (s_.2.2.1 : Value).ownBlock) s_.2.2.2 y345) ∧ (w'.heap[gb328]? = some (.cells #[.slice A0_0 l0_0.length c0_0, .slice A0_1 l0_1.length c0_1] 40 (0, 0))) ∧ (w'.heap[gb329]? = some (.cells #[.slice none 0 0, .slice none 0 0] 40 (0, 0))) ∧ (Below w.heap.size w w')) ?_ ?_
        rotate_left
        ·intro hJ2_4_5_10
         refine join_ (σ := Value × Value × Value) 6 (bs 15 767) (fun s_ => [(30, s_.1), (32, s_.2.1), (33, s_.2.2)]) (fun s_ w' => (w'.cell? ⟨gb328, 0, none⟩ = some (.slice A0_0 l0_0.length c0_0) ∧ w'.cell? ⟨gb328, 1, none⟩ = some (.slice A0_1 l0_1.length c0_1)) ∧ (Kd.R (Kd.int .i64) 3 w' w.heap.size (fun k_ => some k_ ≠ (s_.2.2 : Value).ownBlock) s_.2.1 y336) ∧ (Kd.R (Kd.int .i64) 3 w' w.heap.size (fun k_ => some k_ ≠ (s_.2.1 : Value).ownBlock) s_.2.2 y339) ∧ (w'.heap[gb328]? = some (.cells #[.slice A0_0 l0_0.length c0_0, .slice A0_1 l0_1.length c0_1] 40 (0, 0))) ∧ (w'.heap[gb329]? = some (.cells #[.slice none 0 0, .slice none 0 0] 40 (0, 0))) ∧ (Below w.heap.size w w')) ?_ ?_
         rotate_left
         ·intro hJ2_4_5
          refine join_ (σ := Value × Value × Value) 6 (bs 15 1759) (fun s_ => [(30, s_.1), (32, s_.2.1), (38, s_.2.2)]) (fun s_ w' => (w'.cell? ⟨gb328, 0, none⟩ = some (.slice A0_0 l0_0.length c0_0) ∧ w'.cell? ⟨gb328, 1, none⟩ = some (.slice A0_1 l0_1.length c0_1)) ∧ (Kd.R (Kd.int .i64) 3 w' w.heap.size (fun k_ => some k_ ≠ (s_.2.1 : Value).ownBlock ∧ some k_ ≠ (s_.2.2 : Value).ownBlock) s_.1 t333) ∧ (Kd.R (Kd.int .i64) 3 w' w.heap.size (fun k_ => some k_ ≠ (s_.1 : Value).ownBlock ∧ some k_ ≠ (s_.2.2 : Value).ownBlock) s_.2.1 y336) ∧ (Kd.R (Kd.int .i64) 3 w' w.heap.size (fun k_ => some k_ ≠ (s_.1 : Value).ownBlock ∧ some k_ ≠ (s_.2.1 : Value).ownBlock) s_.2.2 y345) ∧ (w'.heap[gb328]? = some (.cells #[.slice A0_0 l0_0.length c0_0, .slice A0_1 l0_1.length c0_1] 40 (0, 0))) ∧ (w'.heap[gb329]? = some (.cells #[.slice none 0 0, .slice none 0 0] 40 (0, 0))) ∧ (Below w.heap.size w w')) ?_ ?_
          rotate_left
          ·intro hJ2_4_10
           refine join_ (σ := Value × Value) 7 (bs 15 735) (fun s_ => [(30, s_.1), (32, s_.2)]) (fun s_ w' => (w'.cell? ⟨gb328, 0, none⟩ = some (.slice A0_0 l0_0.length c0_0) ∧ w'.cell? ⟨gb328, 1, none⟩ = some (.slice A0_1 l0_1.length c0_1)) ∧ (Kd.R (Kd.int .i64) 3 w' w.heap.size (fun k_ => some k_ ≠ (s_.2 : Value).ownBlock) s_.1 t333) ∧ (Kd.R (Kd.int .i64) 3 w' w.heap.size (fun k_ => some k_ ≠ (s_.1 : Value).ownBlock) s_.2 y336) ∧ (w'.heap[gb328]? = some (.cells #[.slice A0_0 l0_0.length c0_0, .slice A0_1 l0_1.length c0_1] 40 (0, 0))) ∧ (w'.heap[gb329]? = some (.cells #[.slice none 0 0, .slice none 0 0] 40 (0, 0))) ∧ (Below w.heap.size w w')) ?_ ?_
           rotate_left
           ·intro hJ2_4
            refine join_ (σ := Value × Value) 7 (bs 15 1743) (fun s_ => [(30, s_.1), (38, s_.2)]) (fun s_ w' => (w'.cell? ⟨gb328, 0, none⟩ = some (.slice A0_0 l0_0.length c0_0) ∧ w'.cell? ⟨gb328, 1, none⟩ = some (.slice A0_1 l0_1.length c0_1)) ∧ (Kd.R (Kd.int .i64) 3 w' w.heap.size (fun k_ => some k_ ≠ (s_.2 : Value).ownBlock) s_.1 t333) ∧ (Kd.R (Kd.int .i64) 3 w' w.heap.size (fun k_ => some k_ ≠ (s_.1 : Value).ownBlock) s_.2 y345) ∧ (w'.heap[gb328]? = some (.cells #[.slice A0_0 l0_0.length c0_0, .slice A0_1 l0_1.length c0_1] 40 (0, 0))) ∧ (w'.heap[gb329]? = some (.cells #[.slice none 0 0, .slice none 0 0] 40 (0, 0))) ∧ (Below w.heap.size w w')) ?_ ?_
            rotate_left
            ·intro hJ2_10
             refine join_ (σ := Value × Value) 7 (bs 15 1755) (fun s_ => [(32, s_.1), (38, s_.2)]) (fun s_ w' => (w'.cell? ⟨gb328, 0, none⟩ = some (.slice A0_0 l0_0.length c0_0) ∧ w'.cell? ⟨gb328, 1, none⟩ = some (.slice A0_1 l0_1.length c0_1)) ∧ (Kd.R (Kd.int .i64) 3 w' w.heap.size (fun k_ => some k_ ≠ (s_.2 : Value).ownBlock) s_.1 y336) ∧ (Kd.R (Kd.int .i64) 3 w' w.heap.size (fun k_ => some k_ ≠ (s_.1 : Value).ownBlock) s_.2 y345) ∧ (w'.heap[gb328]? = some (.cells #[.slice A0_0 l0_0.length c0_0, .slice A0_1 l0_1.length c0_1] 40 (0, 0))) ∧ (w'.heap[gb329]? = some (.cells #[.slice none 0 0, .slice none 0 0] 40 (0, 0))) ∧ (Below w.heap.size w w')) ?_ ?_
             rotate_left
             ·intro hJ4_10
              refine join_ (σ := Value) 8 (bs 15 719) (fun s_ => [(30, s_)]) (fun s_ w' => (w'.cell? ⟨gb328, 0, none⟩ = some (.slice A0_0 l0_0.length c0_0) ∧ w'.cell? ⟨gb328, 1, none⟩ = some (.slice A0_1 l0_1.length c0_1)) ∧ (Kd.R (Kd.int .i64) 3 w' w.heap.size (fun _ => True) s_ t333) ∧ (w'.heap[gb328]? = some (.cells #[.slice A0_0 l0_0.length c0_0, .slice A0_1 l0_1.length c0_1] 40 (0, 0))) ∧ (w'.heap[gb329]? = some (.cells #[.slice none 0 0, .slice none 0 0] 40 (0, 0))) ∧ (Below w.heap.size w w')) ?_ ?_
              rotate_left
              ·intro hJ2
               refine join_ (σ := Value) 8 (bs 15 731) (fun s_ => [(32, s_)]) (fun s_ w' => (w'.cell? ⟨gb328, 0, none⟩ = some (.slice A0_0 l0_0.length c0_0) ∧ w'.cell? ⟨gb328, 1, none⟩ = some (.slice A0_1 l0_1.length c0_1)) ∧ (Kd.R (Kd.int .i64) 3 w' w.heap.size (fun _ => True) s_ y336) ∧ (w'.heap[gb328]? = some (.cells #[.slice A0_0 l0_0.length c0_0, .slice A0_1 l0_1.length c0_1] 40 (0, 0))) ∧ (w'.heap[gb329]? = some (.cells #[.slice none 0 0, .slice none 0 0] 40 (0, 0))) ∧ (Below w.heap.size w w')) ?_ ?_
               rotate_left
               ·intro hJ4
                refine join_ (σ := Value) 8 (bs 15 1739) (fun s_ => [(38, s_)]) (fun s_ w' => (w'.cell? ⟨gb328, 0, none⟩ = some (.slice A0_0 l0_0.length c0_0) ∧ w'.cell? ⟨gb328, 1, none⟩ = some (.slice A0_1 l0_1.length c0_1)) ∧ (Kd.R (Kd.int .i64) 3 w' w.heap.size (fun _ => True) s_ y345) ∧ (w'.heap[gb328]? = some (.cells #[.slice A0_0 l0_0.length c0_0, .slice A0_1 l0_1.length c0_1] 40 (0, 0))) ∧ (w'.heap[gb329]? = some (.cells #[.slice none 0 0, .slice none 0 0] 40 (0, 0))) ∧ (Below w.heap.size w w')) ?_ ?_
                rotate_left
                ·intro hJ10
                 refine three_ (i := 2) (j := 4) (k := 10) (Ni := some 30) (Nj := some 32) (Nk := some 38) (bs 15 719) (bs 15 731) (bs 15 1739) rfl rfl rfl rfl rfl rfl (three_of HT_.out (by kernel_rfl)) (by decide) (by decide) (by decide) (fun K hK => ?_) (fun K hK => ?_) (fun K hK => ?_)
                 ·skip
                  refine gE_ Tryd.func141 #[.slice A0_0 l0_0.length c0_0] ?_
                  with_reducible refine (slices_Clone_int_int.calls _ _ l0_0 t333 _ ?side1 ?side2 A29.out).mono ?_
                  (case side1 => exact cs_ (Kd.C_below HR0_0.out HB.out))
                  (case side2 => exact HC0_0.out)
                  rintro e w34 ⟨v334, rfl, ho0, hb⟩
                  refine ⟨_, rfl, ?_⟩
                  have HO335 := Aside0.mk (Kd.R_lower ho0 (below_size (dn_ HB.out)))
                  replace BK328 := kb_ BK328 hb
                  replace BK329 := kb_ BK329 hb
                  replace HB := bs_ HB hb
                  (try clear hb)
                  (try clear hb2)
                  (try clear hk)
                  (try clear hi)
                  (try clear ho0)
                  refine hK.out _ _ ⟨(blk_cell BK328.out 0).trans rfl, (blk_cell BK328.out 1).trans rfl⟩ (fun hHeld => ?_)
                  clear hK K
                  refine nA_ ?_
                  exact nm_ (hJ2 (v334) _ ⟨hHeld, (up_ HO335.out), (up_ BK328.out), (up_ BK329.out), (dn_ HB.out)⟩)
                 ·skip
                  refine Kd.R_lit_step (Kd.int .i64) _ 3 ?hg (N := 32) ?hd (xs := ([a1] : List Int)) (inner := [.int .i64 a1]) (ok := fun _ => True) (okp := fun _ => True) ?hr ?hp (fun _ hk => hk) trivial (Below.refl _ _) (Nat.le_refl _) (by simp) ?_; (case hd => rfl); (case hg => rfl); (case hr => first | (go_simp; done) | (go_simp; rfl)); (case hp => exact (Reps.one (show Kd.M (Kd.int .i64) _ _ _ a1 [.int .i64 a1] from rfl) (Reps.none _ _)))
                  intro v337 w34 ho35 hb hg_ hnew_
                  clear hg_ hnew_
                  (first | rw [← Ny336.out] at ho35 | (simp only [Int.reduceToNat] at ho35; rw [← Ny336.out] at ho35))
                  have HO338 := Aside0.mk (Kd.R_lower ho35 (below_size (dn_ HB.out)))
                  replace BK328 := kb_ BK328 hb
                  replace BK329 := kb_ BK329 hb
                  replace HB := bs_ HB hb
                  clear hb ho35
                  refine hK.out _ _ ⟨(blk_cell BK328.out 0).trans rfl, (blk_cell BK328.out 1).trans rfl⟩ (fun hHeld => ?_)
                  clear hK K
                  refine nA_ ?_
                  exact nm_ (hJ4 (v337) _ ⟨hHeld, (up_ HO338.out), (up_ BK328.out), (up_ BK329.out), (dn_ HB.out)⟩)
                 ·skip
                  refine Kd.R_lit_step (Kd.int .i64) _ 3 ?hg (N := 38) ?hd (xs := ([a2] : List Int)) (inner := [.int .i64 a2]) (ok := fun _ => True) (okp := fun _ => True) ?hr ?hp (fun _ hk => hk) trivial (Below.refl _ _) (Nat.le_refl _) (by simp) ?_; (case hd => rfl); (case hg => rfl); (case hr => first | (go_simp; done) | (go_simp; rfl)); (case hp => exact (Reps.one (show Kd.M (Kd.int .i64) _ _ _ a2 [.int .i64 a2] from rfl) (Reps.none _ _)))
                  intro v346 w34 ho35 hb hg_ hnew_
                  clear hg_ hnew_
                  (first | rw [← Ny345.out] at ho35 | (simp only [Int.reduceToNat] at ho35; rw [← Ny345.out] at ho35))
                  have HO347 := Aside0.mk (Kd.R_lower ho35 (below_size (dn_ HB.out)))
                  replace BK328 := kb_ BK328 hb
                  replace BK329 := kb_ BK329 hb
                  replace HB := bs_ HB hb
                  clear hb ho35
                  refine hK.out _ _ ⟨(blk_cell BK328.out 0).trans rfl, (blk_cell BK328.out 1).trans rfl⟩ (fun hHeld => ?_)
                  clear hK K
                  refine nA_ ?_
                  exact nm_ (hJ10 (v346) _ ⟨hHeld, (up_ HO347.out), (up_ BK328.out), (up_ BK329.out), (dn_ HB.out)⟩)
                ·skip
                 rintro v346 w36 ⟨hS_, h0_, h1_, h2_, h3_⟩
                 have n0_ : Aside0 (Kd.R (Kd.int .i64) 3 w36 w.heap.size (fun _ => True) v346 y345) := ⟨h0_⟩
                 have n1_ : Aside0 (w36.heap[gb328]? = some (.cells #[.slice A0_0 l0_0.length c0_0, .slice A0_1 l0_1.length c0_1] 40 (0, 0))) := ⟨h1_⟩
                 have n2_ : Aside0 (w36.heap[gb329]? = some (.cells #[.slice none 0 0, .slice none 0 0] 40 (0, 0))) := ⟨h2_⟩
                 have n3_ : Aside0 (Below w.heap.size w w36) := ⟨h3_⟩
                 clear BK328
                 clear BK329
                 clear HB
                 clear h0_ h1_ h2_ h3_
                 have HO347 := n0_
                 have BK328 := n1_
                 have BK329 := n2_
                 have HB := n3_
                 clear n0_ n1_ n2_ n3_
                 have hHeld : w36.cell? ⟨gb328, 0, none⟩ = some (.slice A0_0 l0_0.length c0_0) ∧ w36.cell? ⟨gb328, 1, none⟩ = some (.slice A0_1 l0_1.length c0_1) := hS_
                 refine norm_ (a' := ?_) ?_ ?_
                 rotate_left
                 ·simp only [putAll, Act.put, List.setIfInBounds_toArray, List.set_cons_zero, List.set_cons_succ]
                  rfl
                 refine two_ (i := 2) (j := 4) (Ni := some 30) (Nj := some 32) (bs 15 1743) (bs 15 1755) rfl rfl rfl rfl (two_of HT_.out (by kernel_rfl)) (by decide) (by decide) (fun K hK => ?_) (fun K hK => ?_)
                 ·skip
                  refine gE_ Tryd.func141 #[.slice A0_0 l0_0.length c0_0] ?_
                  with_reducible refine (slices_Clone_int_int.calls _ _ l0_0 t333 _ ?side1 ?side2 A29.out).mono ?_
                  (case side1 => exact cs_ (Kd.C_below HR0_0.out HB.out))
                  (case side2 => exact HC0_0.out)
                  rintro e w37 ⟨v334, rfl, ho0, hb⟩
                  refine ⟨_, rfl, ?_⟩
                  have HO335 := Aside0.mk (Kd.R_lower (Kd.R_new' ho0 (Kd.R_lt (up_ HO347.out))) (below_size (dn_ HB.out)))
                  replace HO347 := re_ HO347 (Kd.R_base ho0) hb
                  replace BK328 := kb_ BK328 hb
                  replace BK329 := kb_ BK329 hb
                  replace HB := bs_ HB hb
                  (try clear hb)
                  (try clear hb2)
                  (try clear hk)
                  (try clear hi)
                  (try clear ho0)
                  refine hK.out _ _ ⟨(blk_cell BK328.out 0).trans rfl, (blk_cell BK328.out 1).trans rfl⟩ (fun hHeld => ?_)
                  clear hK K
                  refine nA_ ?_
                  exact nm_ (hJ2_10 (v334, v346) _ ⟨hHeld, (by refine lr_ ?_; exact Kd.R_mono HO335.out (fun _ hk => hk.2)), (by refine lr_ ?_; exact Kd.R_mono HO347.out (fun _ hk => hk.2)), (up_ BK328.out), (up_ BK329.out), (dn_ HB.out)⟩)
                 ·skip
                  refine Kd.R_lit_step (Kd.int .i64) _ 3 ?hg (N := 32) ?hd (xs := ([a1] : List Int)) (inner := [.int .i64 a1]) (ok := fun _ => True) (okp := fun _ => True) ?hr ?hp (fun _ hk => hk) trivial (Below.refl _ _) (Nat.le_refl _) (by simp) ?_; (case hd => rfl); (case hg => rfl); (case hr => first | (go_simp; done) | (go_simp; rfl)); (case hp => exact (Reps.one (show Kd.M (Kd.int .i64) _ _ _ a1 [.int .i64 a1] from rfl) (Reps.none _ _)))
                  intro v337 w37 ho38 hb hg_ hnew_
                  clear hg_ hnew_
                  (first | rw [← Ny336.out] at ho38 | (simp only [Int.reduceToNat] at ho38; rw [← Ny336.out] at ho38))
                  have HO338 := Aside0.mk (Kd.R_lower (Kd.R_new' ho38 (Kd.R_lt (up_ HO347.out))) (below_size (dn_ HB.out)))
                  replace HO347 := re_ HO347 (Kd.R_base ho38) hb
                  replace BK328 := kb_ BK328 hb
                  replace BK329 := kb_ BK329 hb
                  replace HB := bs_ HB hb
                  clear hb ho38
                  refine hK.out _ _ ⟨(blk_cell BK328.out 0).trans rfl, (blk_cell BK328.out 1).trans rfl⟩ (fun hHeld => ?_)
                  clear hK K
                  refine nA_ ?_
                  exact nm_ (hJ4_10 (v337, v346) _ ⟨hHeld, (by refine lr_ ?_; exact Kd.R_mono HO338.out (fun _ hk => hk.2)), (by refine lr_ ?_; exact Kd.R_mono HO347.out (fun _ hk => hk.2)), (up_ BK328.out), (up_ BK329.out), (dn_ HB.out)⟩)
               ·skip
                rintro v337 w36 ⟨hS_, h0_, h1_, h2_, h3_⟩
                have n0_ : Aside0 (Kd.R (Kd.int .i64) 3 w36 w.heap.size (fun _ => True) v337 y336) := ⟨h0_⟩
                have n1_ : Aside0 (w36.heap[gb328]? = some (.cells #[.slice A0_0 l0_0.length c0_0, .slice A0_1 l0_1.length c0_1] 40 (0, 0))) := ⟨h1_⟩
                have n2_ : Aside0 (w36.heap[gb329]? = some (.cells #[.slice none 0 0, .slice none 0 0] 40 (0, 0))) := ⟨h2_⟩
                have n3_ : Aside0 (Below w.heap.size w w36) := ⟨h3_⟩
                clear BK328
                clear BK329
                clear HB
                clear h0_ h1_ h2_ h3_
                have HO338 := n0_
                have BK328 := n1_
                have BK329 := n2_
                have HB := n3_
                clear n0_ n1_ n2_ n3_
                have hHeld : w36.cell? ⟨gb328, 0, none⟩ = some (.slice A0_0 l0_0.length c0_0) ∧ w36.cell? ⟨gb328, 1, none⟩ = some (.slice A0_1 l0_1.length c0_1) := hS_
                refine norm_ (a' := ?_) ?_ ?_
                rotate_left
                ·simp only [putAll, Act.put, List.setIfInBounds_toArray, List.set_cons_zero, List.set_cons_succ]
                 rfl
                refine two_ (i := 2) (j := 10) (Ni := some 30) (Nj := some 38) (bs 15 735) (bs 15 1755) rfl rfl rfl rfl (two_of HT_.out (by kernel_rfl)) (by decide) (by decide) (fun K hK => ?_) (fun K hK => ?_)
                ·skip
                 refine gE_ Tryd.func141 #[.slice A0_0 l0_0.length c0_0] ?_
                 with_reducible refine (slices_Clone_int_int.calls _ _ l0_0 t333 _ ?side1 ?side2 A29.out).mono ?_
                 (case side1 => exact cs_ (Kd.C_below HR0_0.out HB.out))
                 (case side2 => exact HC0_0.out)
                 rintro e w37 ⟨v334, rfl, ho0, hb⟩
                 refine ⟨_, rfl, ?_⟩
                 have HO335 := Aside0.mk (Kd.R_lower (Kd.R_new' ho0 (Kd.R_lt (up_ HO338.out))) (below_size (dn_ HB.out)))
                 replace HO338 := re_ HO338 (Kd.R_base ho0) hb
                 replace BK328 := kb_ BK328 hb
                 replace BK329 := kb_ BK329 hb
                 replace HB := bs_ HB hb
                 (try clear hb)
                 (try clear hb2)
                 (try clear hk)
                 (try clear hi)
                 (try clear ho0)
                 refine hK.out _ _ ⟨(blk_cell BK328.out 0).trans rfl, (blk_cell BK328.out 1).trans rfl⟩ (fun hHeld => ?_)
                 clear hK K
                 refine nA_ ?_
                 exact nm_ (hJ2_4 (v334, v337) _ ⟨hHeld, (by refine lr_ ?_; exact Kd.R_mono HO335.out (fun _ hk => hk.2)), (by refine lr_ ?_; exact Kd.R_mono HO338.out (fun _ hk => hk.2)), (up_ BK328.out), (up_ BK329.out), (dn_ HB.out)⟩)
                ·skip
                 refine Kd.R_lit_step (Kd.int .i64) _ 3 ?hg (N := 38) ?hd (xs := ([a2] : List Int)) (inner := [.int .i64 a2]) (ok := fun _ => True) (okp := fun _ => True) ?hr ?hp (fun _ hk => hk) trivial (Below.refl _ _) (Nat.le_refl _) (by simp) ?_; (case hd => rfl); (case hg => rfl); (case hr => first | (go_simp; done) | (go_simp; rfl)); (case hp => exact (Reps.one (show Kd.M (Kd.int .i64) _ _ _ a2 [.int .i64 a2] from rfl) (Reps.none _ _)))
                 intro v346 w37 ho38 hb hg_ hnew_
                 clear hg_ hnew_
                 (first | rw [← Ny345.out] at ho38 | (simp only [Int.reduceToNat] at ho38; rw [← Ny345.out] at ho38))
                 have HO347 := Aside0.mk (Kd.R_lower (Kd.R_new' ho38 (Kd.R_lt (up_ HO338.out))) (below_size (dn_ HB.out)))
                 replace HO338 := re_ HO338 (Kd.R_base ho38) hb
                 replace BK328 := kb_ BK328 hb
                 replace BK329 := kb_ BK329 hb
                 replace HB := bs_ HB hb
                 clear hb ho38
                 refine hK.out _ _ ⟨(blk_cell BK328.out 0).trans rfl, (blk_cell BK328.out 1).trans rfl⟩ (fun hHeld => ?_)
                 clear hK K
                 refine nA_ ?_
                 exact nm_ (hJ4_10 (v337, v346) _ ⟨hHeld, (by refine lr_ ?_; exact Kd.R_mono HO338.out (fun _ hk => hk.2)), (by refine lr_ ?_; exact Kd.R_mono HO347.out (fun _ hk => hk.2)), (up_ BK328.out), (up_ BK329.out), (dn_ HB.out)⟩)
              ·skip
               rintro v334 w35 ⟨hS_, h0_, h1_, h2_, h3_⟩
               have n0_ : Aside0 (Kd.R (Kd.int .i64) 3 w35 w.heap.size (fun _ => True) v334 t333) := ⟨h0_⟩
               have n1_ : Aside0 (w35.heap[gb328]? = some (.cells #[.slice A0_0 l0_0.length c0_0, .slice A0_1 l0_1.length c0_1] 40 (0, 0))) := ⟨h1_⟩
               have n2_ : Aside0 (w35.heap[gb329]? = some (.cells #[.slice none 0 0, .slice none 0 0] 40 (0, 0))) := ⟨h2_⟩
               have n3_ : Aside0 (Below w.heap.size w w35) := ⟨h3_⟩
               clear BK328
               clear BK329
               clear HB
               clear h0_ h1_ h2_ h3_
               have HO335 := n0_
               have BK328 := n1_
               have BK329 := n2_
               have HB := n3_
               clear n0_ n1_ n2_ n3_
               have hHeld : w35.cell? ⟨gb328, 0, none⟩ = some (.slice A0_0 l0_0.length c0_0) ∧ w35.cell? ⟨gb328, 1, none⟩ = some (.slice A0_1 l0_1.length c0_1) := hS_
               refine norm_ (a' := ?_) ?_ ?_
               rotate_left
               ·simp only [putAll, Act.put, List.setIfInBounds_toArray, List.set_cons_zero, List.set_cons_succ]
                rfl
               refine two_ (i := 4) (j := 10) (Ni := some 32) (Nj := some 38) (bs 15 735) (bs 15 1743) rfl rfl rfl rfl (two_of HT_.out (by kernel_rfl)) (by decide) (by decide) (fun K hK => ?_) (fun K hK => ?_)
               ·skip
                refine Kd.R_lit_step (Kd.int .i64) _ 3 ?hg (N := 32) ?hd (xs := ([a1] : List Int)) (inner := [.int .i64 a1]) (ok := fun _ => True) (okp := fun _ => True) ?hr ?hp (fun _ hk => hk) trivial (Below.refl _ _) (Nat.le_refl _) (by simp) ?_; (case hd => rfl); (case hg => rfl); (case hr => first | (go_simp; done) | (go_simp; rfl)); (case hp => exact (Reps.one (show Kd.M (Kd.int .i64) _ _ _ a1 [.int .i64 a1] from rfl) (Reps.none _ _)))
                intro v337 w36 ho37 hb hg_ hnew_
                clear hg_ hnew_
                (first | rw [← Ny336.out] at ho37 | (simp only [Int.reduceToNat] at ho37; rw [← Ny336.out] at ho37))
                have HO338 := Aside0.mk (Kd.R_lower (Kd.R_new' ho37 (Kd.R_lt (up_ HO335.out))) (below_size (dn_ HB.out)))
                replace HO335 := re_ HO335 (Kd.R_base ho37) hb
                replace BK328 := kb_ BK328 hb
                replace BK329 := kb_ BK329 hb
                replace HB := bs_ HB hb
                clear hb ho37
                refine hK.out _ _ ⟨(blk_cell BK328.out 0).trans rfl, (blk_cell BK328.out 1).trans rfl⟩ (fun hHeld => ?_)
                clear hK K
                refine nA_ ?_
                exact nm_ (hJ2_4 (v334, v337) _ ⟨hHeld, (by refine lr_ ?_; exact Kd.R_mono HO335.out (fun _ hk => hk.2)), (by refine lr_ ?_; exact Kd.R_mono HO338.out (fun _ hk => hk.2)), (up_ BK328.out), (up_ BK329.out), (dn_ HB.out)⟩)
               ·skip
                refine Kd.R_lit_step (Kd.int .i64) _ 3 ?hg (N := 38) ?hd (xs := ([a2] : List Int)) (inner := [.int .i64 a2]) (ok := fun _ => True) (okp := fun _ => True) ?hr ?hp (fun _ hk => hk) trivial (Below.refl _ _) (Nat.le_refl _) (by simp) ?_; (case hd => rfl); (case hg => rfl); (case hr => first | (go_simp; done) | (go_simp; rfl)); (case hp => exact (Reps.one (show Kd.M (Kd.int .i64) _ _ _ a2 [.int .i64 a2] from rfl) (Reps.none _ _)))
                intro v346 w36 ho37 hb hg_ hnew_
                clear hg_ hnew_
                (first | rw [← Ny345.out] at ho37 | (simp only [Int.reduceToNat] at ho37; rw [← Ny345.out] at ho37))
                have HO347 := Aside0.mk (Kd.R_lower (Kd.R_new' ho37 (Kd.R_lt (up_ HO335.out))) (below_size (dn_ HB.out)))
                replace HO335 := re_ HO335 (Kd.R_base ho37) hb
                replace BK328 := kb_ BK328 hb
                replace BK329 := kb_ BK329 hb
                replace HB := bs_ HB hb
                clear hb ho37
                refine hK.out _ _ ⟨(blk_cell BK328.out 0).trans rfl, (blk_cell BK328.out 1).trans rfl⟩ (fun hHeld => ?_)
                clear hK K
                refine nA_ ?_
                exact nm_ (hJ2_10 (v334, v346) _ ⟨hHeld, (by refine lr_ ?_; exact Kd.R_mono HO335.out (fun _ hk => hk.2)), (by refine lr_ ?_; exact Kd.R_mono HO347.out (fun _ hk => hk.2)), (up_ BK328.out), (up_ BK329.out), (dn_ HB.out)⟩)
             ·skip
              rintro ⟨v337, v346⟩ w38 ⟨hS_, h0_, h1_, h2_, h3_, h4_⟩
              have n0_ : Aside0 (Kd.R (Kd.int .i64) 3 w38 w.heap.size (fun k_ => some k_ ≠ (v346 : Value).ownBlock) v337 y336) := ⟨h0_⟩
              have n1_ : Aside0 (Kd.R (Kd.int .i64) 3 w38 w.heap.size (fun k_ => some k_ ≠ (v337 : Value).ownBlock) v346 y345) := ⟨h1_⟩
              have n2_ : Aside0 (w38.heap[gb328]? = some (.cells #[.slice A0_0 l0_0.length c0_0, .slice A0_1 l0_1.length c0_1] 40 (0, 0))) := ⟨h2_⟩
              have n3_ : Aside0 (w38.heap[gb329]? = some (.cells #[.slice none 0 0, .slice none 0 0] 40 (0, 0))) := ⟨h3_⟩
              have n4_ : Aside0 (Below w.heap.size w w38) := ⟨h4_⟩
              clear BK328
              clear BK329
              clear HB
              clear h0_ h1_ h2_ h3_ h4_
              have HO338 := n0_
              have HO347 := n1_
              have BK328 := n2_
              have BK329 := n3_
              have HB := n4_
              clear n0_ n1_ n2_ n3_ n4_
              have hHeld : w38.cell? ⟨gb328, 0, none⟩ = some (.slice A0_0 l0_0.length c0_0) ∧ w38.cell? ⟨gb328, 1, none⟩ = some (.slice A0_1 l0_1.length c0_1) := hS_
              refine norm_ (a' := ?_) ?_ ?_
              rotate_left
              ·simp only [putAll, Act.put, List.setIfInBounds_toArray, List.set_cons_zero, List.set_cons_succ]
               rfl
              refine oA_ 2 (some 30) 15 1759 (fun K hK => ?_)
              refine gE_ Tryd.func141 #[.slice A0_0 l0_0.length c0_0] ?_
              with_reducible refine (slices_Clone_int_int.calls _ _ l0_0 t333 _ ?side1 ?side2 A29.out).mono ?_
              (case side1 => exact cs_ (Kd.C_below HR0_0.out HB.out))
              (case side2 => exact HC0_0.out)
              rintro e w39 ⟨v334, rfl, ho0, hb⟩
              refine ⟨_, rfl, ?_⟩
              have HO335 := Aside0.mk (Kd.R_lower (Kd.R_new' (Kd.R_new' ho0 (Kd.R_lt (up_ HO338.out))) (Kd.R_lt (up_ HO347.out))) (below_size (dn_ HB.out)))
              replace HO338 := re_ HO338 (Kd.R_base ho0) hb
              replace HO347 := re_ HO347 (Kd.R_base ho0) hb
              replace BK328 := kb_ BK328 hb
              replace BK329 := kb_ BK329 hb
              replace HB := bs_ HB hb
              (try clear hb)
              (try clear hb2)
              (try clear hk)
              (try clear hi)
              (try clear ho0)
              refine hK.out _ _ ⟨(blk_cell BK328.out 0).trans rfl, (blk_cell BK328.out 1).trans rfl⟩ (fun hHeld => ?_)
              clear hK K
              refine nA_ ?_
              exact nm_ (hJ2_4_10 (v334, v337, v346) _ ⟨hHeld, (by refine lr_ ?_; exact Kd.R_mono HO335.out (fun _ hk => ⟨hk.1.2, hk.2⟩)), (by refine lr_ ?_; exact Kd.R_mono HO338.out (fun _ hk => ⟨hk.2, hk.1⟩)), (by refine lr_ ?_; exact Kd.R_mono HO347.out (fun _ hk => ⟨hk.2, hk.1⟩)), (up_ BK328.out), (up_ BK329.out), (dn_ HB.out)⟩)
            ·skip
             rintro ⟨v334, v346⟩ w37 ⟨hS_, h0_, h1_, h2_, h3_, h4_⟩
             have n0_ : Aside0 (Kd.R (Kd.int .i64) 3 w37 w.heap.size (fun k_ => some k_ ≠ (v346 : Value).ownBlock) v334 t333) := ⟨h0_⟩
             have n1_ : Aside0 (Kd.R (Kd.int .i64) 3 w37 w.heap.size (fun k_ => some k_ ≠ (v334 : Value).ownBlock) v346 y345) := ⟨h1_⟩
             have n2_ : Aside0 (w37.heap[gb328]? = some (.cells #[.slice A0_0 l0_0.length c0_0, .slice A0_1 l0_1.length c0_1] 40 (0, 0))) := ⟨h2_⟩
             have n3_ : Aside0 (w37.heap[gb329]? = some (.cells #[.slice none 0 0, .slice none 0 0] 40 (0, 0))) := ⟨h3_⟩
             have n4_ : Aside0 (Below w.heap.size w w37) := ⟨h4_⟩
             clear BK328
             clear BK329
             clear HB
             clear h0_ h1_ h2_ h3_ h4_
             have HO335 := n0_
             have HO347 := n1_
             have BK328 := n2_
             have BK329 := n3_
             have HB := n4_
             clear n0_ n1_ n2_ n3_ n4_
             have hHeld : w37.cell? ⟨gb328, 0, none⟩ = some (.slice A0_0 l0_0.length c0_0) ∧ w37.cell? ⟨gb328, 1, none⟩ = some (.slice A0_1 l0_1.length c0_1) := hS_
             refine norm_ (a' := ?_) ?_ ?_
             rotate_left
             ·simp only [putAll, Act.put, List.setIfInBounds_toArray, List.set_cons_zero, List.set_cons_succ]
              rfl
             refine oA_ 4 (some 32) 15 1759 (fun K hK => ?_)
             refine Kd.R_lit_step (Kd.int .i64) _ 3 ?hg (N := 32) ?hd (xs := ([a1] : List Int)) (inner := [.int .i64 a1]) (ok := fun _ => True) (okp := fun _ => True) ?hr ?hp (fun _ hk => hk) trivial (Below.refl _ _) (Nat.le_refl _) (by simp) ?_; (case hd => rfl); (case hg => rfl); (case hr => first | (go_simp; done) | (go_simp; rfl)); (case hp => exact (Reps.one (show Kd.M (Kd.int .i64) _ _ _ a1 [.int .i64 a1] from rfl) (Reps.none _ _)))
             intro v337 w38 ho39 hb hg_ hnew_
             clear hg_ hnew_
             (first | rw [← Ny336.out] at ho39 | (simp only [Int.reduceToNat] at ho39; rw [← Ny336.out] at ho39))
             have HO338 := Aside0.mk (Kd.R_lower (Kd.R_new' (Kd.R_new' ho39 (Kd.R_lt (up_ HO335.out))) (Kd.R_lt (up_ HO347.out))) (below_size (dn_ HB.out)))
             replace HO335 := re_ HO335 (Kd.R_base ho39) hb
             replace HO347 := re_ HO347 (Kd.R_base ho39) hb
             replace BK328 := kb_ BK328 hb
             replace BK329 := kb_ BK329 hb
             replace HB := bs_ HB hb
             clear hb ho39
             refine hK.out _ _ ⟨(blk_cell BK328.out 0).trans rfl, (blk_cell BK328.out 1).trans rfl⟩ (fun hHeld => ?_)
             clear hK K
             refine nA_ ?_
             exact nm_ (hJ2_4_10 (v334, v337, v346) _ ⟨hHeld, (by refine lr_ ?_; exact Kd.R_mono HO335.out (fun _ hk => ⟨hk.2, hk.1⟩)), (by refine lr_ ?_; exact Kd.R_mono HO338.out (fun _ hk => ⟨hk.1.2, hk.2⟩)), (up_ HO347.out), (up_ BK328.out), (up_ BK329.out), (dn_ HB.out)⟩)
           ·skip
            rintro ⟨v334, v337⟩ w37 ⟨hS_, h0_, h1_, h2_, h3_, h4_⟩
            have n0_ : Aside0 (Kd.R (Kd.int .i64) 3 w37 w.heap.size (fun k_ => some k_ ≠ (v337 : Value).ownBlock) v334 t333) := ⟨h0_⟩
            have n1_ : Aside0 (Kd.R (Kd.int .i64) 3 w37 w.heap.size (fun k_ => some k_ ≠ (v334 : Value).ownBlock) v337 y336) := ⟨h1_⟩
            have n2_ : Aside0 (w37.heap[gb328]? = some (.cells #[.slice A0_0 l0_0.length c0_0, .slice A0_1 l0_1.length c0_1] 40 (0, 0))) := ⟨h2_⟩
            have n3_ : Aside0 (w37.heap[gb329]? = some (.cells #[.slice none 0 0, .slice none 0 0] 40 (0, 0))) := ⟨h3_⟩
            have n4_ : Aside0 (Below w.heap.size w w37) := ⟨h4_⟩
            clear BK328
            clear BK329
            clear HB
            clear h0_ h1_ h2_ h3_ h4_
            have HO335 := n0_
            have HO338 := n1_
            have BK328 := n2_
            have BK329 := n3_
            have HB := n4_
            clear n0_ n1_ n2_ n3_ n4_
            have hHeld : w37.cell? ⟨gb328, 0, none⟩ = some (.slice A0_0 l0_0.length c0_0) ∧ w37.cell? ⟨gb328, 1, none⟩ = some (.slice A0_1 l0_1.length c0_1) := hS_
            obtain ⟨Ao39, co39, eo39⟩ := Kd.R_slice HO338.out
            (first | subst eo39 | (injection eo39 with f1_ f2_ f3_; have f4_ := f1_.symm; have f5_ := f3_.symm; clear f1_ f2_ f3_; subst f4_; subst f5_))
            refine norm_ (a' := ?_) ?_ ?_
            rotate_left
            ·simp only [putAll, Act.put, List.setIfInBounds_toArray, List.set_cons_zero, List.set_cons_succ]
             rfl
            refine two_ (i := 5) (j := 10) (Ni := some 33) (Nj := some 38) (bs 15 767) (bs 15 1759) rfl rfl rfl rfl (two_of HT_.out (by kernel_rfl)) (by decide) (by decide) (fun K hK => ?_) (fun K hK => ?_)
            ·skip
             refine Kd.R_append_rows_step (Kd.int .i64) (w0 := w) w.heap.size (by rfl) (.tmp 30) (.tmp 32) 35 3 (.int .i64 0) 8 rfl Tryd.underlying35 info3 rfl (by decide) (by omega) v334 t333 y336 _ _ _ (fun k_ => some k_ ≠ (.slice Ao39 y336.length co39 : Value).ownBlock) (fun _ => False) rfl rfl ?aO ?aR (fun _ _ h => h) (fun _ h => h.elim) ?aF ?aB ?aS ?aL ?_
             (case aR => repeat (first | exact (Kd.R_reads' HO338.out).2.2 | (with_reducible refine Kd.C_alloc ?_ _) | (with_reducible refine Kd.C_drewN ?_ _) | (with_reducible refine Kd.C_drew ?_)))
             (case aB => exact (dn_ HB.out))
             (case aF => exact (fun k_ hk => Kd.fresh' (Kd.R_lt (up_ HO338.out)) k_ hk))
             (case aO => exact (up_ HO335.out))
             (case aS => exact (below_size (dn_ HB.out)))
             (case aL => have := LMc30.out; omega)
             intro v340 w38 ho hb hg hat
             rw [← Ny339.out] at ho
             have n0_ := Aside0.mk (blk_grown (g := gb328) (o := .cells #[.slice A0_0 l0_0.length c0_0, .slice A0_1 l0_1.length c0_1] 40 (0, 0)) (up_ BK328.out) hg (Kd.R_ne HO335.out BK328.out (by decide)))
             have n1_ := Aside0.mk (blk_grown (g := gb329) (o := .cells #[.slice none 0 0, .slice none 0 0] 40 (0, 0)) (up_ BK329.out) hg (Kd.R_ne HO335.out BK329.out (by decide)))
             have n2_ := Aside0.mk (Kd.R_after (ok := (fun _ => True)) (by refine lr_ ?_; exact Kd.R_mono HO338.out (fun _ hk => ⟨trivial, hk⟩)) hg hat)
             have n3_ := Aside0.mk (hb)
             have n4_ := Aside0.mk (ho)
             clear BK328
             clear BK329
             clear HO338
             clear HB
             clear HO335
             have BK328 := n0_
             have BK329 := n1_
             have HO338 := n2_
             have HB := n3_
             have HO341 := n4_
             clear n0_ n1_ n2_ n3_ n4_
             clear ho hb hg hat
             refine hK.out _ _ ⟨(blk_cell BK328.out 0).trans rfl, (blk_cell BK328.out 1).trans rfl⟩ (fun hHeld => ?_)
             clear hK K
             refine nA_ ?_
             exact nm_ (hJ2_4_5 (v334, .slice Ao39 y336.length co39, v340) _ ⟨hHeld, (by refine lr_ ?_; exact Kd.R_mono HO338.out (fun _ hk => hk.2)), (up_ HO341.out), (up_ BK328.out), (up_ BK329.out), (dn_ HB.out)⟩)
            ·skip
             refine Kd.R_lit_step (Kd.int .i64) _ 3 ?hg (N := 38) ?hd (xs := ([a2] : List Int)) (inner := [.int .i64 a2]) (ok := fun _ => True) (okp := fun _ => True) ?hr ?hp (fun _ hk => hk) trivial (Below.refl _ _) (Nat.le_refl _) (by simp) ?_; (case hd => rfl); (case hg => rfl); (case hr => first | (go_simp; done) | (go_simp; rfl)); (case hp => exact (Reps.one (show Kd.M (Kd.int .i64) _ _ _ a2 [.int .i64 a2] from rfl) (Reps.none _ _)))
             intro v346 w38 ho39 hb hg_ hnew_
             clear hg_ hnew_
             (first | rw [← Ny345.out] at ho39 | (simp only [Int.reduceToNat] at ho39; rw [← Ny345.out] at ho39))
             have HO347 := Aside0.mk (Kd.R_lower (Kd.R_new' (Kd.R_new' ho39 (Kd.R_lt (up_ HO335.out))) (Kd.R_lt (up_ HO338.out))) (below_size (dn_ HB.out)))
             replace HO335 := re_ HO335 (Kd.R_base ho39) hb
             replace HO338 := re_ HO338 (Kd.R_base ho39) hb
             replace BK328 := kb_ BK328 hb
             replace BK329 := kb_ BK329 hb
             replace HB := bs_ HB hb
             clear hb ho39
             refine hK.out _ _ ⟨(blk_cell BK328.out 0).trans rfl, (blk_cell BK328.out 1).trans rfl⟩ (fun hHeld => ?_)
             clear hK K
             refine nA_ ?_
             exact nm_ (hJ2_4_10 (v334, .slice Ao39 y336.length co39, v346) _ ⟨hHeld, (up_ HO335.out), (up_ HO338.out), (by refine lr_ ?_; exact Kd.R_mono HO347.out (fun _ hk => ⟨hk.1.2, hk.2⟩)), (up_ BK328.out), (up_ BK329.out), (dn_ HB.out)⟩)
          ·skip
           rintro ⟨v334, v337, v346⟩ w39 ⟨hS_, h0_, h1_, h2_, h3_, h4_, h5_⟩
           have n0_ : Aside0 (Kd.R (Kd.int .i64) 3 w39 w.heap.size (fun k_ => some k_ ≠ (v337 : Value).ownBlock ∧ some k_ ≠ (v346 : Value).ownBlock) v334 t333) := ⟨h0_⟩
           have n1_ : Aside0 (Kd.R (Kd.int .i64) 3 w39 w.heap.size (fun k_ => some k_ ≠ (v334 : Value).ownBlock ∧ some k_ ≠ (v346 : Value).ownBlock) v337 y336) := ⟨h1_⟩
           have n2_ : Aside0 (Kd.R (Kd.int .i64) 3 w39 w.heap.size (fun k_ => some k_ ≠ (v334 : Value).ownBlock ∧ some k_ ≠ (v337 : Value).ownBlock) v346 y345) := ⟨h2_⟩
           have n3_ : Aside0 (w39.heap[gb328]? = some (.cells #[.slice A0_0 l0_0.length c0_0, .slice A0_1 l0_1.length c0_1] 40 (0, 0))) := ⟨h3_⟩
           have n4_ : Aside0 (w39.heap[gb329]? = some (.cells #[.slice none 0 0, .slice none 0 0] 40 (0, 0))) := ⟨h4_⟩
           have n5_ : Aside0 (Below w.heap.size w w39) := ⟨h5_⟩
           clear BK328
           clear BK329
           clear HB
           clear h0_ h1_ h2_ h3_ h4_ h5_
           have HO335 := n0_
           have HO338 := n1_
           have HO347 := n2_
           have BK328 := n3_
           have BK329 := n4_
           have HB := n5_
           clear n0_ n1_ n2_ n3_ n4_ n5_
           have hHeld : w39.cell? ⟨gb328, 0, none⟩ = some (.slice A0_0 l0_0.length c0_0) ∧ w39.cell? ⟨gb328, 1, none⟩ = some (.slice A0_1 l0_1.length c0_1) := hS_
           obtain ⟨Ao41, co41, eo41⟩ := Kd.R_slice HO338.out
           (first | subst eo41 | (injection eo41 with f1_ f2_ f3_; have f4_ := f1_.symm; have f5_ := f3_.symm; clear f1_ f2_ f3_; subst f4_; subst f5_))
           refine norm_ (a' := ?_) ?_ ?_
           rotate_left
           ·simp only [putAll, Act.put, List.setIfInBounds_toArray, List.set_cons_zero, List.set_cons_succ]
            rfl
           refine oA_ 5 (some 33) 15 1791 (fun K hK => ?_)
           refine Kd.R_append_rows_step (Kd.int .i64) (w0 := w) w.heap.size (by rfl) (.tmp 30) (.tmp 32) 35 3 (.int .i64 0) 8 rfl Tryd.underlying35 info3 rfl (by decide) (by omega) v334 t333 y336 _ _ _ (fun k_ => some k_ ≠ (.slice Ao41 y336.length co41 : Value).ownBlock ∧ some k_ ≠ (v346 : Value).ownBlock) (fun _ => False) rfl rfl ?aO ?aR (fun _ _ h => h) (fun _ h => h.elim) ?aF ?aB ?aS ?aL ?_
           (case aR => repeat (first | exact (Kd.R_reads' HO338.out).2.2 | (with_reducible refine Kd.C_alloc ?_ _) | (with_reducible refine Kd.C_drewN ?_ _) | (with_reducible refine Kd.C_drew ?_)))
           (case aB => exact (dn_ HB.out))
           (case aF => exact (fun k_ hk => ⟨Kd.fresh' (Kd.R_lt (up_ HO338.out)) k_ hk, Kd.fresh' (Kd.R_lt (up_ HO347.out)) k_ hk⟩))
           (case aO => exact (up_ HO335.out))
           (case aS => exact (below_size (dn_ HB.out)))
           (case aL => have := LMc30.out; omega)
           intro v340 w40 ho hb hg hat
           rw [← Ny339.out] at ho
           have n0_ := Aside0.mk (blk_grown (g := gb328) (o := .cells #[.slice A0_0 l0_0.length c0_0, .slice A0_1 l0_1.length c0_1] 40 (0, 0)) (up_ BK328.out) hg (Kd.R_ne HO335.out BK328.out (by decide)))
           have n1_ := Aside0.mk (blk_grown (g := gb329) (o := .cells #[.slice none 0 0, .slice none 0 0] 40 (0, 0)) (up_ BK329.out) hg (Kd.R_ne HO335.out BK329.out (by decide)))
           have n2_ := Aside0.mk (Kd.R_after (ok := (fun k_ => some k_ ≠ (v346 : Value).ownBlock)) (by refine lr_ ?_; exact Kd.R_mono HO338.out (fun _ hk => ⟨hk.2, hk.1⟩)) hg hat)
           have n3_ := Aside0.mk (Kd.R_after (ok := (fun k_ => some k_ ≠ (.slice Ao41 y336.length co41 : Value).ownBlock)) (by refine lr_ ?_; exact Kd.R_mono HO347.out (fun _ hk => ⟨hk.2, hk.1⟩)) hg hat)
           have n4_ := Aside0.mk (hb)
           have n5_ := Aside0.mk (ho)
           clear BK328
           clear BK329
           clear HO338
           clear HO347
           clear HB
           clear HO335
           have BK328 := n0_
           have BK329 := n1_
           have HO338 := n2_
           have HO347 := n3_
           have HB := n4_
           have HO341 := n5_
           clear n0_ n1_ n2_ n3_ n4_ n5_
           clear ho hb hg hat
           refine hK.out _ _ ⟨(blk_cell BK328.out 0).trans rfl, (blk_cell BK328.out 1).trans rfl⟩ (fun hHeld => ?_)
           clear hK K
           refine nA_ ?_
           exact nm_ (hJ2_4_5_10 (v334, .slice Ao41 y336.length co41, v340, v346) _ ⟨hHeld, (by refine lr_ ?_; exact Kd.R_mono HO338.out (fun _ hk => ⟨hk.2, hk.1⟩)), (up_ HO341.out), (up_ HO347.out), (up_ BK328.out), (up_ BK329.out), (dn_ HB.out)⟩)
         ·skip
          rintro ⟨v334, v337, v340⟩ w39 ⟨hS_, h0_, h1_, h2_, h3_, h4_⟩
          have n0_ : Aside0 (Kd.R (Kd.int .i64) 3 w39 w.heap.size (fun k_ => some k_ ≠ (v340 : Value).ownBlock) v337 y336) := ⟨h0_⟩
          have n1_ : Aside0 (Kd.R (Kd.int .i64) 3 w39 w.heap.size (fun k_ => some k_ ≠ (v337 : Value).ownBlock) v340 y339) := ⟨h1_⟩
          have n2_ : Aside0 (w39.heap[gb328]? = some (.cells #[.slice A0_0 l0_0.length c0_0, .slice A0_1 l0_1.length c0_1] 40 (0, 0))) := ⟨h2_⟩
          have n3_ : Aside0 (w39.heap[gb329]? = some (.cells #[.slice none 0 0, .slice none 0 0] 40 (0, 0))) := ⟨h3_⟩
          have n4_ : Aside0 (Below w.heap.size w w39) := ⟨h4_⟩
          clear BK328
          clear BK329
          clear HB
          clear h0_ h1_ h2_ h3_ h4_
          have HO338 := n0_
          have HO341 := n1_
          have BK328 := n2_
          have BK329 := n3_
          have HB := n4_
          clear n0_ n1_ n2_ n3_ n4_
          have hHeld : w39.cell? ⟨gb328, 0, none⟩ = some (.slice A0_0 l0_0.length c0_0) ∧ w39.cell? ⟨gb328, 1, none⟩ = some (.slice A0_1 l0_1.length c0_1) := hS_
          refine norm_ (a' := ?_) ?_ ?_
          rotate_left
          ·simp only [putAll, Act.put, List.setIfInBounds_toArray, List.set_cons_zero, List.set_cons_succ]
           rfl
          refine two_ (i := 8) (j := 10) (Ni := some 36) (Nj := some 38) (bs 15 1023) (bs 15 1791) rfl rfl rfl rfl (two_of HT_.out (by kernel_rfl)) (by decide) (by decide) (fun K hK => ?_) (fun K hK => ?_)
          ·skip
           refine gE_ Tryd.func141 #[.slice A0_1 l0_1.length c0_1] ?_
           with_reducible refine (slices_Clone_int_int.calls _ _ l0_1 t342 _ ?side1 ?side2 A31.out).mono ?_
           (case side1 => exact cs_ (Kd.C_below HR0_1.out HB.out))
           (case side2 => exact HC0_1.out)
           rintro e w40 ⟨v343, rfl, ho0, hb⟩
           refine ⟨_, rfl, ?_⟩
           have HO344 := Aside0.mk (Kd.R_lower (Kd.R_new' (Kd.R_new' ho0 (Kd.R_lt (up_ HO338.out))) (Kd.R_lt (up_ HO341.out))) (below_size (dn_ HB.out)))
           replace HO338 := re_ HO338 (Kd.R_base ho0) hb
           replace HO341 := re_ HO341 (Kd.R_base ho0) hb
           replace BK328 := kb_ BK328 hb
           replace BK329 := kb_ BK329 hb
           replace HB := bs_ HB hb
           (try clear hb)
           (try clear hb2)
           (try clear hk)
           (try clear hi)
           (try clear ho0)
           refine hK.out _ _ ⟨(blk_cell BK328.out 0).trans rfl, (blk_cell BK328.out 1).trans rfl⟩ (fun hHeld => ?_)
           clear hK K
           refine nA_ ?_
           exact nm_ (hJ2_4_5_8 (v334, v337, v340, v343) _ ⟨hHeld, (up_ HO338.out), (up_ HO341.out), (by refine lr_ ?_; exact Kd.R_mono HO344.out (fun _ hk => ⟨hk.1.2, hk.2⟩)), (up_ BK328.out), (up_ BK329.out), (dn_ HB.out)⟩)
          ·skip
           refine Kd.R_lit_step (Kd.int .i64) _ 3 ?hg (N := 38) ?hd (xs := ([a2] : List Int)) (inner := [.int .i64 a2]) (ok := fun _ => True) (okp := fun _ => True) ?hr ?hp (fun _ hk => hk) trivial (Below.refl _ _) (Nat.le_refl _) (by simp) ?_; (case hd => rfl); (case hg => rfl); (case hr => first | (go_simp; done) | (go_simp; rfl)); (case hp => exact (Reps.one (show Kd.M (Kd.int .i64) _ _ _ a2 [.int .i64 a2] from rfl) (Reps.none _ _)))
           intro v346 w40 ho41 hb hg_ hnew_
           clear hg_ hnew_
           (first | rw [← Ny345.out] at ho41 | (simp only [Int.reduceToNat] at ho41; rw [← Ny345.out] at ho41))
           have HO347 := Aside0.mk (Kd.R_lower (Kd.R_new' (Kd.R_new' ho41 (Kd.R_lt (up_ HO338.out))) (Kd.R_lt (up_ HO341.out))) (below_size (dn_ HB.out)))
           replace HO338 := re_ HO338 (Kd.R_base ho41) hb
           replace HO341 := re_ HO341 (Kd.R_base ho41) hb
           replace BK328 := kb_ BK328 hb
           replace BK329 := kb_ BK329 hb
           replace HB := bs_ HB hb
           clear hb ho41
           refine hK.out _ _ ⟨(blk_cell BK328.out 0).trans rfl, (blk_cell BK328.out 1).trans rfl⟩ (fun hHeld => ?_)
           clear hK K
           refine nA_ ?_
           exact nm_ (hJ2_4_5_10 (v334, v337, v340, v346) _ ⟨hHeld, (up_ HO338.out), (up_ HO341.out), (by refine lr_ ?_; exact Kd.R_mono HO347.out (fun _ hk => ⟨hk.1.2, hk.2⟩)), (up_ BK328.out), (up_ BK329.out), (dn_ HB.out)⟩)
        ·skip
         rintro ⟨v334, v337, v340, v346⟩ w41 ⟨hS_, h0_, h1_, h2_, h3_, h4_, h5_⟩
         have n0_ : Aside0 (Kd.R (Kd.int .i64) 3 w41 w.heap.size (fun k_ => some k_ ≠ (v340 : Value).ownBlock ∧ some k_ ≠ (v346 : Value).ownBlock) v337 y336) := ⟨h0_⟩
         have n1_ : Aside0 (Kd.R (Kd.int .i64) 3 w41 w.heap.size (fun k_ => some k_ ≠ (v337 : Value).ownBlock ∧ some k_ ≠ (v346 : Value).ownBlock) v340 y339) := ⟨h1_⟩
         have n2_ : Aside0 (Kd.R (Kd.int .i64) 3 w41 w.heap.size (fun k_ => some k_ ≠ (v337 : Value).ownBlock ∧ some k_ ≠ (v340 : Value).ownBlock) v346 y345) := ⟨h2_⟩
         have n3_ : Aside0 (w41.heap[gb328]? = some (.cells #[.slice A0_0 l0_0.length c0_0, .slice A0_1 l0_1.length c0_1] 40 (0, 0))) := ⟨h3_⟩
         have n4_ : Aside0 (w41.heap[gb329]? = some (.cells #[.slice none 0 0, .slice none 0 0] 40 (0, 0))) := ⟨h4_⟩
         have n5_ : Aside0 (Below w.heap.size w w41) := ⟨h5_⟩
         clear BK328
         clear BK329
         clear HB
         clear h0_ h1_ h2_ h3_ h4_ h5_
         have HO338 := n0_
         have HO341 := n1_
         have HO347 := n2_
         have BK328 := n3_
         have BK329 := n4_
         have HB := n5_
         clear n0_ n1_ n2_ n3_ n4_ n5_
         have hHeld : w41.cell? ⟨gb328, 0, none⟩ = some (.slice A0_0 l0_0.length c0_0) ∧ w41.cell? ⟨gb328, 1, none⟩ = some (.slice A0_1 l0_1.length c0_1) := hS_
         refine norm_ (a' := ?_) ?_ ?_
         rotate_left
         ·simp only [putAll, Act.put, List.setIfInBounds_toArray, List.set_cons_zero, List.set_cons_succ]
          rfl
         refine oA_ 8 (some 36) 15 2047 (fun K hK => ?_)
         refine gE_ Tryd.func141 #[.slice A0_1 l0_1.length c0_1] ?_
         with_reducible refine (slices_Clone_int_int.calls _ _ l0_1 t342 _ ?side1 ?side2 A31.out).mono ?_
         (case side1 => exact cs_ (Kd.C_below HR0_1.out HB.out))
         (case side2 => exact HC0_1.out)
         rintro e w42 ⟨v343, rfl, ho0, hb⟩
         refine ⟨_, rfl, ?_⟩
         have HO344 := Aside0.mk (Kd.R_lower (Kd.R_new' (Kd.R_new' (Kd.R_new' ho0 (Kd.R_lt (up_ HO338.out))) (Kd.R_lt (up_ HO341.out))) (Kd.R_lt (up_ HO347.out))) (below_size (dn_ HB.out)))
         replace HO338 := re_ HO338 (Kd.R_base ho0) hb
         replace HO341 := re_ HO341 (Kd.R_base ho0) hb
         replace HO347 := re_ HO347 (Kd.R_base ho0) hb
         replace BK328 := kb_ BK328 hb
         replace BK329 := kb_ BK329 hb
         replace HB := bs_ HB hb
         (try clear hb)
         (try clear hb2)
         (try clear hk)
         (try clear hi)
         (try clear ho0)
         refine hK.out _ _ ⟨(blk_cell BK328.out 0).trans rfl, (blk_cell BK328.out 1).trans rfl⟩ (fun hHeld => ?_)
         clear hK K
         refine nA_ ?_
         exact nm_ (hJ2_4_5_8_10 (v334, v337, v340, v343, v346) _ ⟨hHeld, (by refine lr_ ?_; exact Kd.R_mono HO338.out (fun _ hk => ⟨hk.1.1, ⟨hk.2, hk.1.2⟩⟩)), (by refine lr_ ?_; exact Kd.R_mono HO341.out (fun _ hk => ⟨hk.1.1, ⟨hk.2, hk.1.2⟩⟩)), (by refine lr_ ?_; exact Kd.R_mono HO344.out (fun _ hk => ⟨hk.1.1.2, ⟨hk.1.2, hk.2⟩⟩)), (by refine lr_ ?_; exact Kd.R_mono HO347.out (fun _ hk => ⟨hk.1.1, ⟨hk.1.2, hk.2⟩⟩)), (up_ BK328.out), (up_ BK329.out), (dn_ HB.out)⟩)
       ·skip
        rintro ⟨v334, v337, v340, v343⟩ w40 ⟨hS_, h0_, h1_, h2_, h3_, h4_, h5_⟩
        have n0_ : Aside0 (Kd.R (Kd.int .i64) 3 w40 w.heap.size (fun k_ => some k_ ≠ (v340 : Value).ownBlock ∧ some k_ ≠ (v343 : Value).ownBlock) v337 y336) := ⟨h0_⟩
        have n1_ : Aside0 (Kd.R (Kd.int .i64) 3 w40 w.heap.size (fun k_ => some k_ ≠ (v337 : Value).ownBlock ∧ some k_ ≠ (v343 : Value).ownBlock) v340 y339) := ⟨h1_⟩
        have n2_ : Aside0 (Kd.R (Kd.int .i64) 3 w40 w.heap.size (fun k_ => some k_ ≠ (v337 : Value).ownBlock ∧ some k_ ≠ (v340 : Value).ownBlock) v343 t342) := ⟨h2_⟩
        have n3_ : Aside0 (w40.heap[gb328]? = some (.cells #[.slice A0_0 l0_0.length c0_0, .slice A0_1 l0_1.length c0_1] 40 (0, 0))) := ⟨h3_⟩
        have n4_ : Aside0 (w40.heap[gb329]? = some (.cells #[.slice none 0 0, .slice none 0 0] 40 (0, 0))) := ⟨h4_⟩
        have n5_ : Aside0 (Below w.heap.size w w40) := ⟨h5_⟩
        clear BK328
        clear BK329
        clear HB
        clear h0_ h1_ h2_ h3_ h4_ h5_
        have HO338 := n0_
        have HO341 := n1_
        have HO344 := n2_
        have BK328 := n3_
        have BK329 := n4_
        have HB := n5_
        clear n0_ n1_ n2_ n3_ n4_ n5_
        have hHeld : w40.cell? ⟨gb328, 0, none⟩ = some (.slice A0_0 l0_0.length c0_0) ∧ w40.cell? ⟨gb328, 1, none⟩ = some (.slice A0_1 l0_1.length c0_1) := hS_
        refine norm_ (a' := ?_) ?_ ?_
        rotate_left
        ·simp only [putAll, Act.put, List.setIfInBounds_toArray, List.set_cons_zero, List.set_cons_succ]
         rfl
        refine oA_ 10 (some 38) 15 2047 (fun K hK => ?_)
        refine Kd.R_lit_step (Kd.int .i64) _ 3 ?hg (N := 38) ?hd (xs := ([a2] : List Int)) (inner := [.int .i64 a2]) (ok := fun _ => True) (okp := fun _ => True) ?hr ?hp (fun _ hk => hk) trivial (Below.refl _ _) (Nat.le_refl _) (by simp) ?_; (case hd => rfl); (case hg => rfl); (case hr => first | (go_simp; done) | (go_simp; rfl)); (case hp => exact (Reps.one (show Kd.M (Kd.int .i64) _ _ _ a2 [.int .i64 a2] from rfl) (Reps.none _ _)))
        intro v346 w41 ho42 hb hg_ hnew_
        clear hg_ hnew_
        (first | rw [← Ny345.out] at ho42 | (simp only [Int.reduceToNat] at ho42; rw [← Ny345.out] at ho42))
        have HO347 := Aside0.mk (Kd.R_lower (Kd.R_new' (Kd.R_new' (Kd.R_new' ho42 (Kd.R_lt (up_ HO338.out))) (Kd.R_lt (up_ HO341.out))) (Kd.R_lt (up_ HO344.out))) (below_size (dn_ HB.out)))
        replace HO338 := re_ HO338 (Kd.R_base ho42) hb
        replace HO341 := re_ HO341 (Kd.R_base ho42) hb
        replace HO344 := re_ HO344 (Kd.R_base ho42) hb
        replace BK328 := kb_ BK328 hb
        replace BK329 := kb_ BK329 hb
        replace HB := bs_ HB hb
        clear hb ho42
        refine hK.out _ _ ⟨(blk_cell BK328.out 0).trans rfl, (blk_cell BK328.out 1).trans rfl⟩ (fun hHeld => ?_)
        clear hK K
        refine nA_ ?_
        exact nm_ (hJ2_4_5_8_10 (v334, v337, v340, v343, v346) _ ⟨hHeld, (by refine lr_ ?_; exact Kd.R_mono HO338.out (fun _ hk => ⟨hk.1.1, ⟨hk.1.2, hk.2⟩⟩)), (by refine lr_ ?_; exact Kd.R_mono HO341.out (fun _ hk => ⟨hk.1.1, ⟨hk.1.2, hk.2⟩⟩)), (by refine lr_ ?_; exact Kd.R_mono HO344.out (fun _ hk => ⟨hk.1.1, ⟨hk.1.2, hk.2⟩⟩)), (by refine lr_ ?_; exact Kd.R_mono HO347.out (fun _ hk => ⟨hk.1.1.2, ⟨hk.1.2, hk.2⟩⟩)), (up_ BK328.out), (up_ BK329.out), (dn_ HB.out)⟩)
      rintro ⟨v334, v337, v340, v343, v346⟩ w42 ⟨hS_, h0_, h1_, h2_, h3_, h4_, h5_, h6_⟩
      have n0_ : Aside0 (Kd.R (Kd.int .i64) 3 w42 w.heap.size (fun k_ => some k_ ≠ (v340 : Value).ownBlock ∧ some k_ ≠ (v343 : Value).ownBlock ∧ some k_ ≠ (v346 : Value).ownBlock) v337 y336) := ⟨h0_⟩
      have n1_ : Aside0 (Kd.R (Kd.int .i64) 3 w42 w.heap.size (fun k_ => some k_ ≠ (v337 : Value).ownBlock ∧ some k_ ≠ (v343 : Value).ownBlock ∧ some k_ ≠ (v346 : Value).ownBlock) v340 y339) := ⟨h1_⟩
      have n2_ : Aside0 (Kd.R (Kd.int .i64) 3 w42 w.heap.size (fun k_ => some k_ ≠ (v337 : Value).ownBlock ∧ some k_ ≠ (v340 : Value).ownBlock ∧ some k_ ≠ (v346 : Value).ownBlock) v343 t342) := ⟨h2_⟩
      have n3_ : Aside0 (Kd.R (Kd.int .i64) 3 w42 w.heap.size (fun k_ => some k_ ≠ (v337 : Value).ownBlock ∧ some k_ ≠ (v340 : Value).ownBlock ∧ some k_ ≠ (v343 : Value).ownBlock) v346 y345) := ⟨h3_⟩
      have n4_ : Aside0 (w42.heap[gb328]? = some (.cells #[.slice A0_0 l0_0.length c0_0, .slice A0_1 l0_1.length c0_1] 40 (0, 0))) := ⟨h4_⟩
      have n5_ : Aside0 (w42.heap[gb329]? = some (.cells #[.slice none 0 0, .slice none 0 0] 40 (0, 0))) := ⟨h5_⟩
      have n6_ : Aside0 (Below w.heap.size w w42) := ⟨h6_⟩
      clear BK328
      clear BK329
      clear HB
      clear h0_ h1_ h2_ h3_ h4_ h5_ h6_
      have HO338 := n0_
      have HO341 := n1_
      have HO344 := n2_
      have HO347 := n3_
      have BK328 := n4_
      have BK329 := n5_
      have HB := n6_
      clear n0_ n1_ n2_ n3_ n4_ n5_ n6_
      have hHeld : w42.cell? ⟨gb328, 0, none⟩ = some (.slice A0_0 l0_0.length c0_0) ∧ w42.cell? ⟨gb328, 1, none⟩ = some (.slice A0_1 l0_1.length c0_1) := hS_
      obtain ⟨Ao44, co44, eo44⟩ := Kd.R_slice HO347.out
      (first | subst eo44 | (injection eo44 with f1_ f2_ f3_; have f4_ := f1_.symm; have f5_ := f3_.symm; clear f1_ f2_ f3_; subst f4_; subst f5_))
      refine norm_ (a' := ?_) ?_ ?_
      rotate_left
      ·simp only [putAll, Act.put, List.setIfInBounds_toArray, List.set_cons_zero, List.set_cons_succ]
       rfl
      refine oA_ 11 (some 39) 15 4095 (fun K hK => ?_)
      refine Kd.R_append_rows_step (Kd.int .i64) (w0 := w) w.heap.size (by rfl) (.tmp 36) (.tmp 38) 35 3 (.int .i64 0) 8 rfl Tryd.underlying35 info3 rfl (by decide) (by omega) v343 t342 y345 _ _ _ (fun k_ => some k_ ≠ (v337 : Value).ownBlock ∧ some k_ ≠ (v340 : Value).ownBlock ∧ some k_ ≠ (.slice Ao44 y345.length co44 : Value).ownBlock) (fun _ => False) rfl rfl ?aO ?aR (fun _ _ h => h) (fun _ h => h.elim) ?aF ?aB ?aS ?aL ?_
      (case aR => repeat (first | exact (Kd.R_reads' HO347.out).2.2 | (with_reducible refine Kd.C_alloc ?_ _) | (with_reducible refine Kd.C_drewN ?_ _) | (with_reducible refine Kd.C_drew ?_)))
      (case aB => exact (dn_ HB.out))
      (case aF => exact (fun k_ hk => ⟨Kd.fresh' (Kd.R_lt (up_ HO338.out)) k_ hk, Kd.fresh' (Kd.R_lt (up_ HO341.out)) k_ hk, Kd.fresh' (Kd.R_lt (up_ HO347.out)) k_ hk⟩))
      (case aO => exact (up_ HO344.out))
      (case aS => exact (below_size (dn_ HB.out)))
      (case aL => have := LMc32.out; omega)
      intro v349 w43 ho hb hg hat
      rw [← Ny348.out] at ho
      have n0_ := Aside0.mk (blk_grown (g := gb328) (o := .cells #[.slice A0_0 l0_0.length c0_0, .slice A0_1 l0_1.length c0_1] 40 (0, 0)) (up_ BK328.out) hg (Kd.R_ne HO344.out BK328.out (by decide)))
      have n1_ := Aside0.mk (blk_grown (g := gb329) (o := .cells #[.slice none 0 0, .slice none 0 0] 40 (0, 0)) (up_ BK329.out) hg (Kd.R_ne HO344.out BK329.out (by decide)))
      have n2_ := Aside0.mk (Kd.R_after (ok := (fun k_ => some k_ ≠ (v340 : Value).ownBlock ∧ some k_ ≠ (.slice Ao44 y345.length co44 : Value).ownBlock)) (by refine lr_ ?_; exact Kd.R_mono HO338.out (fun _ hk => ⟨⟨hk.1, hk.2.2⟩, hk.2.1⟩)) hg hat)
      have n3_ := Aside0.mk (Kd.R_after (ok := (fun k_ => some k_ ≠ (v337 : Value).ownBlock ∧ some k_ ≠ (.slice Ao44 y345.length co44 : Value).ownBlock)) (by refine lr_ ?_; exact Kd.R_mono HO341.out (fun _ hk => ⟨⟨hk.1, hk.2.2⟩, hk.2.1⟩)) hg hat)
      have n4_ := Aside0.mk (Kd.R_after (ok := (fun k_ => some k_ ≠ (v337 : Value).ownBlock ∧ some k_ ≠ (v340 : Value).ownBlock)) (by refine lr_ ?_; exact Kd.R_mono HO347.out (fun _ hk => ⟨⟨hk.1, hk.2.1⟩, hk.2.2⟩)) hg hat)
      have n5_ := Aside0.mk (hb)
      have n6_ := Aside0.mk (ho)
      clear BK328
      clear BK329
      clear HO338
      clear HO341
      clear HO347
      clear HB
      clear HO344
      have BK328 := n0_
      have BK329 := n1_
      have HO338 := n2_
      have HO341 := n3_
      have HO347 := n4_
      have HB := n5_
      have HO350 := n6_
      clear n0_ n1_ n2_ n3_ n4_ n5_ n6_
      clear ho hb hg hat
      obtain ⟨Ao45, co45, eo45⟩ := Kd.R_slice HO350.out
      (first | subst eo45 | (injection eo45 with f1_ f2_ f3_; have f4_ := f1_.symm; have f5_ := f3_.symm; clear f1_ f2_ f3_; subst f4_; subst f5_))
      obtain ⟨Ao46, co46, eo46⟩ := Kd.R_slice HO341.out
      (first | subst eo46 | (injection eo46 with f1_ f2_ f3_; have f4_ := f1_.symm; have f5_ := f3_.symm; clear f1_ f2_ f3_; subst f4_; subst f5_))
      refine hK.out _ _ ⟨(blk_cell BK328.out 0).trans rfl, (blk_cell BK328.out 1).trans rfl⟩ (fun hHeld => ?_)
      clear hK K
      refine nA_ ?_
      refine pA_ 12 40 15 8191 ?_
      refine oA_ 13 none 15 16383 (fun K hK => ?_)
      have hs47 : w43.cell? ⟨gb329, 0, none⟩ = some (.slice none 0 0) := (blk_cell BK329.out 0).trans rfl
      have hfs47 := blk_frozen BK329.out 0
      have hns47_0 := NB328_329.out
      have hms47_0 := NB329_328.out
      have hs48 : w43.cell? ⟨gb329, 1, none⟩ = some (.slice none 0 0) := (blk_cell BK329.out 1).trans rfl
      have hfs48 := blk_frozen BK329.out 1
      have hns48_0 := NB328_329.out
      have hms48_0 := NB329_328.out
      refine skip_ (w1 := ?_) (by rfl) rfl ?_ ?_
      rotate_left
      ·go_simp
       rfl
      refine hK.out _ _ ⟨((cell_far (p := ⟨gb329, _, none⟩) NB328_329.out _).trans (((cell_far (p := ⟨gb329, _, none⟩) NB328_329.out _).trans (hHeld.1)))), ((cell_far (p := ⟨gb329, _, none⟩) NB328_329.out _).trans (((cell_far (p := ⟨gb329, _, none⟩) NB328_329.out _).trans (hHeld.2))))⟩ (fun hHeld => ?_)
      clear hK K
      refine pA_ 14 7 15 32767 ?_
      refine done_ (done_of HT_.out (by kernel_rfl)) ?_
      try go_wp2
      refine bodyPost_ret (results_ct rfl _ _ gb329 40 #[.slice Ao46 y339.length co46, .slice Ao45 y348.length co45] (0, 0) _ rfl (by refine lk_ ?_; refine blk_put (cs := #[.slice Ao46 y339.length co46, .slice none 0 0]) ?_ 1 _ rfl; refine lk_ ?_; refine blk_put (cs := #[.slice none 0 0, .slice none 0 0]) ?_ 0 _ rfl; (with_reducible repeat (first | refine blk_drewN ?_ _ | refine blk_drew ?_ | refine blk_alloc ?_ _)); exact BK329.out) Tryd.underlying40 rfl (by kernel_rfl)) rfl ?_
      exact ⟨_, _, by first | rfl | (simp [errW_none, errW_some] <;> rfl) | (simp [*, errW_none, errW_some] <;> rfl), by refine lr_ ?_; exact Kd.R_mono (Kd.R_far (p := ⟨gb329, 1, none⟩) (Kd.R_far (p := ⟨gb329, 0, none⟩) (Kd.R_types HO341.out BK329.out (by decide)) (fun _ hk => hk.2) (.slice Ao46 y339.length co46)) (fun _ hk => hk.2) (.slice Ao45 y348.length co45)) (fun _ hk => hk.1.2), by refine lr_ ?_; exact Kd.R_mono (Kd.R_far (p := ⟨gb329, 1, none⟩) (Kd.R_far (p := ⟨gb329, 0, none⟩) (Kd.R_types HO350.out BK329.out (by decide)) (fun _ hk => hk.2) (.slice Ao46 y339.length co46)) (fun _ hk => hk.2) (.slice Ao45 y348.length co45)) (fun _ hk => hk.1.2.1), dn_ HB.out⟩
     ·rw [if_neg c32] at H
      exact absurd H (by simp)
    ·rw [if_neg c30] at H
     exact absurd H (by simp)
end Go.Proofs.YtbmdgmmegchmnaaDoor.B
